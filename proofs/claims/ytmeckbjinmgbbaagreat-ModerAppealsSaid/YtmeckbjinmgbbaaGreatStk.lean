/- Strikes: a record is gone through. -/
import Derived.Test.YtmeckbjinmgbbaaGreatLaws22
import Derived.Test.YtmeckbjinmgbbaaGreatXC
set_option linter.unusedVariables false
set_option linter.unusedSimpArgs false

namespace Go.Proofs.YtmeckbjinmgbbaaGreat
open Go.X
def tmB (n : Int) : Bool := decide (0 ≤ n) && decide (n ≤ 1000000)
theorem tmB_t {n : Int} (h : 0 ≤ n ∧ n ≤ 1000000) : tmB n = true := by simp only [tmB, Bool.and_eq_true, decide_eq_true_eq]; exact h
theorem tmB_of {n : Int} (h : tmB n = true) : 0 ≤ n ∧ n ≤ 1000000 := by simpa only [tmB, Bool.and_eq_true, decide_eq_true_eq] using h
structure Stk where
  a : Int
  t : Int
  c : Bool
def stkV (s : Stk) : Value := AG [(1, [.int .i64 s.a]), (1, [.int .i64 s.t]), (1, [.bool s.c])]
structure LS where
  m : List (KEnt Stk)
  ck : Nat
def LS.put (S : LS) (i : Int) (s : Stk) : LS := ⟨kput S.m S.ck i s, kck S.m S.ck i⟩
def LS.get (S : LS) (i : Int) : Option Stk := kget S.m i
theorem LS.get_put {S : LS} {i j : Int} {s : Stk} : (S.put i s).get j = if i = j then some s else S.get j := kget_put
def idF (l : List Int) : Int := numH (((l.drop 2).take (6 - 2)).take 8)
def nowF (l : List Int) : Int := numH ((l.drop 6).take 8)
def tkOK (l : List Int) : Bool := decide (l.length = 10) && decide (l.getD 1 0 < 8) && (tmB (idF l) && tmB (nowF l))
/-- A record gone through. -/
def tk (S : LS) (l : List Int) : LS :=
  if tkOK l = true then
    match S.get (idF l) with
    | none => if l.getD 0 0 = 1 then S.put (idF l) ⟨l.getD 1 0, nowF l, false⟩ else S
    | some s => if l.getD 0 0 = 2 then S.put (idF l) ⟨s.a, s.t, true⟩ else S
  else S
theorem tk_bad {S : LS} {l : List Int} (h : ¬ tkOK l = true) : tk S l = S := if_neg h
theorem tk_add {S : LS} {l : List Int} (h : tkOK l = true) (h2 : S.get (idF l) = none) (h3 : l.getD 0 0 = 1) : tk S l = S.put (idF l) ⟨l.getD 1 0, nowF l, false⟩ := by unfold tk; rw [if_pos h, h2]; exact if_pos h3
theorem tk_add0 {S : LS} {l : List Int} (h2 : S.get (idF l) = none) (h3 : ¬ l.getD 0 0 = 1) : tk S l = S := by
  by_cases h : tkOK l = true
  · unfold tk; rw [if_pos h, h2]; exact if_neg h3
  · exact tk_bad h
theorem tk_clr {S : LS} {l : List Int} {s : Stk} (h : tkOK l = true) (h2 : S.get (idF l) = some s) (h3 : l.getD 0 0 = 2) : tk S l = S.put (idF l) ⟨s.a, s.t, true⟩ := by unfold tk; rw [if_pos h, h2]; exact if_pos h3
theorem tk_clr0 {S : LS} {l : List Int} {s : Stk} (h2 : S.get (idF l) = some s) (h3 : ¬ l.getD 0 0 = 2) : tk S l = S := by
  by_cases h : tkOK l = true
  · unfold tk; rw [if_pos h, h2]; exact if_neg h3
  · exact tk_bad h
structure LOK (S : LS) : Prop where
  k : KOK S.m S.ck
  e : ∀ e ∈ S.m, (0 ≤ e.1 ∧ e.1 ≤ 1000000) ∧ (0 ≤ e.2.1.a ∧ e.2.1.a < 8) ∧ (0 ≤ e.2.1.t ∧ e.2.1.t ≤ 1000000)
theorem LOK.nil {ck : Nat} : LOK ⟨[], ck⟩ := ⟨.nil, fun e h => by cases h⟩
theorem LOK.put {S : LS} (h : LOK S) {i : Int} {s : Stk} (hi : 0 ≤ i ∧ i ≤ 1000000) (ha : 0 ≤ s.a ∧ s.a < 8) (ht : 0 ≤ s.t ∧ s.t ≤ 1000000) : LOK (S.put i s) :=
  ⟨h.k.put, fun e he => by
    rcases kput_mem he with he | ⟨h1, h2, _⟩
    · exact h.e e he
    · rw [h1, h2]; exact ⟨hi, ha, ht⟩⟩
theorem LOK.get {S : LS} (h : LOK S) {i : Int} {s : Stk} (hs : S.get i = some s) : (0 ≤ i ∧ i ≤ 1000000) ∧ (0 ≤ s.a ∧ s.a < 8) ∧ (0 ≤ s.t ∧ s.t ≤ 1000000) := by
  obtain ⟨n, hn⟩ := kget_mem hs
  exact h.e _ hn
theorem tkOK_of {l : List Int} (h : tkOK l = true) : (l.length = 10 ∧ l.getD 1 0 < 8) ∧ (0 ≤ idF l ∧ idF l ≤ 1000000) ∧ 0 ≤ nowF l ∧ nowF l ≤ 1000000 := by
  simp only [tkOK, Bool.and_eq_true, decide_eq_true_eq] at h
  exact ⟨h.1, tmB_of h.2.1, tmB_of h.2.2⟩
theorem tk_ok {S : LS} (h : LOK S) {l : List Int} (hb : bytes l) : LOK (tk S l) := by
  unfold tk; split
  · rename_i ho
    obtain ⟨_, h2, h3⟩ := tkOK_of ho
    split
    · split
      · exact h.put h2 ⟨(hb.get 1).1, by simp only [tkOK, Bool.and_eq_true, decide_eq_true_eq] at ho; exact ho.1.2⟩ h3
      · exact h
    · rename_i s hs
      split
      · exact h.put h2 (h.get hs).2.1 (h.get hs).2.2
      · exact h
  · exact h
theorem numH_bd23 {l : List Int} (hb : bytes l) (h : l.length ≤ 4) : 0 ≤ numH (l.take 8) ∧ numH (l.take 8) ≤ 4294967295 := by
  have := numH_bd hb l.length (Nat.le_refl _) (by omega)
  rw [List.take_of_length_le (Nat.le_refl _)] at this
  rw [List.take_of_length_le (by omega)]
  omega
theorem lmap {S : LS} {i : Int} {s : Stk} : mput (S.m.map (gE stkV)) S.ck i (stkV s) = (S.put i s).m.map (gE stkV) := mput_gE
theorem lclk {S : LS} {i : Int} {s : Stk} : mclk (S.m.map (gE stkV)) S.ck i = (S.put i s).ck := mclk_gE
theorem lget_some {S : LS} {i : Int} {s : Stk} (h : S.get i = some s) : mget (S.m.map (gE stkV)) i = some (AG [(1, [.int .i64 s.a]), (1, [.int .i64 s.t]), (1, [.bool s.c])]) := by
  rw [mget_gE, show kget S.m i = some s from h]; rfl
theorem lget_no {S : LS} {i : Int} (h : S.get i = none) : mget (S.m.map (gE stkV)) i = none := by rw [mget_gE, show kget S.m i = none from h]; rfl

theorem time23_calls (n : Int) (w : World) : Calls Tryz.prog 82 [.int .i64 n].toArray w fun e w' => e = .returned (.bool (tmB n)) ∧ HP w w' [] [] := by
 refine calls_of_W Tryz.func82 rfl Tryz.ntmps82 rfl rfl (HP.refl w []) ?_
 refine sr ?_
 refine oas ?_
 refine nx ?_
 refine omv ?_
 refine ov (v2 V_geq) ?_
 refine omv ?_
 refine WL.splitD rfl (fun g1 => ?_) (fun g1 => ?_)
 · refine oy rfl (decide_eq_true g1) ?_
   refine omv ?_
   refine oy rfl (decide_eq_true g1) ?_
   refine ov (v2 V_leq) ?_
   refine ov (V_pick_td rfl g1 rfl) ?_
   refine oas ?_
   refine nq ?_
   refine W.ret ?_
   refine WQ.ret1 Tryz.results82 (.tmp rfl) ?_
   intro w' hp; exact ⟨by simp [tmB, *], hp.forget⟩
 · refine on rfl (decide_eq_false g1) ?_
   refine on rfl (decide_eq_false g1) ?_
   refine ov (V_pick_fd rfl g1 rfl) ?_
   refine oas ?_
   refine nq ?_
   refine W.ret ?_
   refine WQ.ret1 Tryz.results82 (.tmp rfl) ?_
   intro w' hp; exact ⟨by simp [tmB, *], hp.forget⟩

theorem take23_calls (b mb j : Nat) (S : LS) (hok : LOK S) (A : Option Addr) (n cap : Nat) (l : List Int) (hbb : bytes l) (hn : n ≤ cap) (hbl : n = l.length) (hn2 : n ≤ 1000000) (w : World) (hp0 : HP w w [b, mb] [(b, .cells [(1, [.pointer (some ⟨j, 0, none⟩)]), (1, [.map (some mb)])] 110), (mb, .obj (mapO .i64 (S.m.map (gE stkV)) S.ck))]) (hb : ∀ w' M, HP w w' [b, mb] M → SrW w' 1 A n (iv .u8 l)) :
    Calls Tryz.prog 62 [.pointer (some ⟨b, 0, none⟩), .slice A n cap].toArray w fun e w' => e = .returned (.tuple #[]) ∧ HP w w' [b, mb] [(b, .cells [(1, [.pointer (some ⟨j, 0, none⟩)]), (1, [.map (some mb)])] 110), (mb, .obj (mapO .i64 ((tk S l).m.map (gE stkV)) (tk S l).ck))] := by
 subst hbl
 obtain ⟨bA, oA, hA⟩ : ∃ bA oA, 0 < l.length → A = some ⟨bA, oA, none⟩ := by
   by_cases h : 0 < l.length
   · obtain ⟨x, y, z⟩ := (hb w _ hp0).hasN h; exact ⟨x, y, fun _ => z⟩
   · exact ⟨0, 0, fun h2 => absurd h2 h⟩
 refine calls_of_W Tryz.func62 rfl Tryz.ntmps62 rfl rfl hp0 ?_
 refine W.seq ?_
 refine sr ?_
 refine omv ?_
 refine ov vlenS ?_
 refine ov (v2 V_neq) ?_
 refine omv ?_
 refine WL.splitD rfl (fun g1 => ?_) (fun g1 => ?_)
 · refine on rfl (decide_eq_true g1) ?_
   refine on rfl (decide_eq_true g1) ?_
   refine on rfl (decide_eq_true g1) ?_
   refine on rfl (decide_eq_true g1) ?_
   refine ov (V_pick_td rfl g1 rfl) ?_
   refine nq ?_
   refine W.cond_true rfl rfl ?_
   refine W.ret ?_
   refine WQ.then_ret ?_
   refine WQ.ret0 (.inl rfl) Tryz.results62 ?_
   intro w' hp; rw [tk_bad (l := l) (by intro h; obtain ⟨⟨h1, h2⟩, h3, h4⟩ := tkOK_of h; first | omega | (have e3 := tmB_t h3; have e4 := tmB_t h4; unfold idF at e3; unfold nowF at e4; simp_all; done))]; exact ⟨rfl, hp.cov cov⟩
 · refine oy rfl (decide_eq_false g1) ?_
   refine omv ?_
   refine oy rfl (decide_eq_false g1) ?_
   refine ov (viO (b := bA) (o := oA) (i := 1) 1 (hx := congrArg (fun a => some (Value.slice a l.length cap)) (hA (by omega)))) ?_
   refine oy rfl (decide_eq_false g1) ?_
   refine ov (V_loadSrI (b := bA) (o := oA) (n := l.length) 1 (fun w hp => (hA (by omega)) ▸ hb w _ hp) (by kernel_rfl) rfl (by omega) (by omega)) ?_
   refine oy rfl (decide_eq_false g1) ?_
   refine ov (v2 V_geq) ?_
   refine ov (V_pick_fd rfl g1 rfl) ?_
   refine nq ?_
   refine W.cond_dec rfl (fun g2 => ?_) (fun g2 => ?_)
   · refine W.ret ?_
     refine WQ.then_ret ?_
     refine WQ.ret0 (.inl rfl) Tryz.results62 ?_
     intro w' hp; rw [tk_bad (l := l) (by intro h; obtain ⟨⟨h1, h2⟩, h3, h4⟩ := tkOK_of h; first | omega | (have e3 := tmB_t h3; have e4 := tmB_t h4; unfold idF at e3; unfold nowF at e4; simp_all; done))]; exact ⟨rfl, hp.cov cov⟩
   · refine W.skip ?_
     refine WQ.then ?_
     refine W.seq ?_
     have hb1 := hbb.get 1
     have hi4 := numH_bd23 ((hbb.drop 2).take (6 - 2)) (by simp; omega)
     have hn4 := numH_bd23 (hbb.drop 6) (by simp; omega)
     refine dr (.q 0 (.q 1 (.q 4 (.q 5 (.l 2 (.q 3 (.l 6 (.q 7 (.q 8 (.q 9 (.done))))))))))) [] ?_
     refine dq rfl (V_move rfl) ?_
     refine dq rfl (vsl (l := 2) (h := 6) 1) ?_
     refine dq rfl (V_move rfl) ?_
     refine dq rfl (vsl (l := 6) 1) ?_
     refine WD.l ?_
     refine dcp rfl rfl (fun w hp => ofHigh_calls _ _ _ ((l.drop 2).take (6 - 2)) w (by have hs1 := hb w _ hp; exact sw) ((hbb.drop 2).take _) (by omega) (by omega)) ?_
     first | refine dq rfl (vcvN .i64) ?_ | refine dq rfl (vcv .i64) ?_
     refine WD.l ?_
     refine dcp rfl rfl (fun w hp => ofHigh_calls _ _ _ (l.drop 6) w (by have hs1 := hb w _ hp; exact sw) (hbb.drop 6) (by omega) (by omega)) ?_
     first | refine dq rfl (vcvN .i64) ?_ | refine dq rfl (vcv .i64) ?_
     refine dq rfl (V_assign rfl) ?_
     refine dq rfl (V_assign rfl) ?_
     refine WD.done ?_
     refine WQ.then ?_
     refine W.seq ?_
     refine sr ?_
     refine omv ?_
     refine cp rfl (fun w hp => time23_calls _ w) ?_
     refine ov vnot ?_
     refine omv ?_
     refine WL.split rfl (fun g3 => ?_) (fun g3 => ?_)
     · refine on rfl g3 ?_
       refine on rfl g3 ?_
       refine on rfl g3 ?_
       refine ov (V_pick_t rfl g3 rfl) ?_
       refine nq ?_
       refine W.cond_true rfl rfl ?_
       refine W.ret ?_
       refine WQ.then_ret ?_
       refine WQ.ret0 (.inl rfl) Tryz.results62 ?_
       intro w' hp; rw [tk_bad (l := l) (by intro h; obtain ⟨⟨h1, h2⟩, h3, h4⟩ := tkOK_of h; first | omega | (have e3 := tmB_t h3; have e4 := tmB_t h4; unfold idF at e3; unfold nowF at e4; simp_all; done))]; exact ⟨rfl, hp.cov cov⟩
     · refine oy rfl g3 ?_
       refine omv ?_
       refine oy rfl g3 ?_
       refine cp rfl (fun w hp => time23_calls _ w) ?_
       refine oy rfl g3 ?_
       refine ov vnot ?_
       refine ov (V_pick_f rfl g3 rfl) ?_
       refine nq ?_
       refine W.cond rfl (fun g4 => ?_) (fun g4 => ?_)
       · refine W.ret ?_
         refine WQ.then_ret ?_
         refine WQ.ret0 (.inl rfl) Tryz.results62 ?_
         intro w' hp; rw [tk_bad (l := l) (by intro h; obtain ⟨⟨h1, h2⟩, h3, h4⟩ := tkOK_of h; first | omega | (have e3 := tmB_t h3; have e4 := tmB_t h4; unfold idF at e3; unfold nowF at e4; simp_all; done))]; exact ⟨rfl, hp.cov cov⟩
       · refine W.skip ?_
         refine WQ.then ?_
         refine W.seq ?_
         have ho : tkOK l = true := by
           simp only [tkOK, Bool.and_eq_true, decide_eq_true_eq]; exact ⟨⟨by omega, by omega⟩, by simpa [idF] using g3, by simpa [nowF] using g4⟩
         by_cases hq : ∃ s, S.get (idF l) = some s
         · obtain ⟨s, hq⟩ := hq
           refine W.region ?_
           refine omv ?_
           refine ov vnil ?_
           refine ov (vfa0 1 1) ?_
           refine ov vld ?_
           refine omv ?_
           refine ov (vlkS (lget_some hq)) ?_
           refine omv ?_
           refine ov vex ?_
           refine ov vex ?_
           refine oal [(1, [.int .i64 0]), (1, [.int .i64 0]), (1, [.bool false])] (fun b6 => ?_)
           refine osta 3 ?_
           refine oas ?_
           refine nq ?_
           refine W.block ?_
           refine sr ?_
           refine omv ?_
           refine ov (viO (b := bA) (o := oA) (i := 0) 1 (hx := congrArg (fun a => some (Value.slice a l.length cap)) (hA (by omega)))) ?_
           refine ov (V_loadSrI (b := bA) (o := oA) (n := l.length) 0 (fun w hp => (hA (by omega)) ▸ hb w _ hp) (by kernel_rfl) rfl (by omega) (by omega)) ?_
           refine ov (v2 V_eql) ?_
           refine omv ?_
           refine WL.splitD rfl (fun g5 => ?_) (fun g5 => ?_)
           · refine oy rfl (decide_eq_true g5) ?_
             refine omv ?_
             refine oy rfl (decide_eq_true g5) ?_
             refine ov vnot ?_
             refine ov (V_pick_td rfl g5 rfl) ?_
             refine oas ?_
             refine nq ?_
             refine W.cond_false rfl rfl ?_
             refine sr ?_
             refine omv ?_
             refine ov (viO (b := bA) (o := oA) (i := 0) 1 (hx := congrArg (fun a => some (Value.slice a l.length cap)) (hA (by omega)))) ?_
             refine ov (V_loadSrI (b := bA) (o := oA) (n := l.length) 0 (fun w hp => (hA (by omega)) ▸ hb w _ hp) (by kernel_rfl) rfl (by omega) (by omega)) ?_
             refine ov (v2 V_eql) ?_
             refine omv ?_
             refine WL.splitD rfl (fun g6 => ?_) (fun g6 => ?_)
             · refine oy rfl (decide_eq_true g6) ?_
               refine omv ?_
               refine ov (V_pick_td rfl g6 rfl) ?_
               refine oas ?_
               refine nq ?_
               refine W.cond rfl (fun g7 => ?_) (fun g7 => ?_)
               · refine W.seq ?_
                 refine W.region ?_
                 refine ov (vfa0 2 1) ?_
                 refine ost ?_
                 refine nq ?_
                 refine dr (.q 0 (.q 1 (.q 2 (.q 3 (.q 4 (.q 5 (.l 6 (.done)))))))) [(b6, _), (b, _)] ?_
                 refine dq rfl (V_move rfl) ?_
                 refine dq rfl vnil ?_
                 refine dq rfl (vfa0 1 1) ?_
                 refine dq rfl vld ?_
                 refine dq rfl (V_move rfl) ?_
                 refine dq rfl (vlda 3) ?_
                 refine WD.l ?_
                 refine dmu rfl ?_
                 refine WD.done ?_
                 refine WQ.block_normal ?_
                 refine WQ.ret0 (.inr rfl) Tryz.results62 ?_
                 intro w' hp; first | (exfalso; omega) | contradiction | (rw [tk_clr0 hq (by omega)]; exact ⟨by first | rfl | trivial, hp.cov cov⟩) | (rw [tk_clr ho hq (by omega), ← lmap, ← lclk]; simp only [stkV, idF, nowF]; exact ⟨by first | rfl | trivial, hp.cov cov⟩) | (rw [tk_add ho hq (by omega), ← lmap, ← lclk]; simp only [stkV, idF, nowF]; exact ⟨by first | rfl | trivial, hp.cov cov⟩) | (rw [tk_add0 hq (by omega)]; exact ⟨by first | rfl | trivial, hp.cov cov⟩)
               · refine W.skip ?_
                 refine WQ.block_normal ?_
                 refine WQ.ret0 (.inr rfl) Tryz.results62 ?_
                 intro w' hp; first | (exfalso; omega) | contradiction | (rw [tk_clr0 hq (by omega)]; exact ⟨by first | rfl | trivial, hp.cov cov⟩) | (rw [tk_clr ho hq (by omega), ← lmap, ← lclk]; simp only [stkV, idF, nowF]; exact ⟨by first | rfl | trivial, hp.cov cov⟩) | (rw [tk_add ho hq (by omega), ← lmap, ← lclk]; simp only [stkV, idF, nowF]; exact ⟨by first | rfl | trivial, hp.cov cov⟩) | (rw [tk_add0 hq (by omega)]; exact ⟨by first | rfl | trivial, hp.cov cov⟩)
             · refine on rfl (decide_eq_false g6) ?_
               refine ov (V_pick_fd rfl g6 rfl) ?_
               refine oas ?_
               refine nq ?_
               refine W.cond_false rfl rfl ?_
               refine W.skip ?_
               refine WQ.block_normal ?_
               refine WQ.ret0 (.inr rfl) Tryz.results62 ?_
               intro w' hp; first | (exfalso; omega) | contradiction | (rw [tk_clr0 hq (by omega)]; exact ⟨by first | rfl | trivial, hp.cov cov⟩) | (rw [tk_clr ho hq (by omega), ← lmap, ← lclk]; simp only [stkV, idF, nowF]; exact ⟨by first | rfl | trivial, hp.cov cov⟩) | (rw [tk_add ho hq (by omega), ← lmap, ← lclk]; simp only [stkV, idF, nowF]; exact ⟨by first | rfl | trivial, hp.cov cov⟩) | (rw [tk_add0 hq (by omega)]; exact ⟨by first | rfl | trivial, hp.cov cov⟩)
           · refine on rfl (decide_eq_false g5) ?_
             refine on rfl (decide_eq_false g5) ?_
             refine ov (V_pick_fd rfl g5 rfl) ?_
             refine oas ?_
             refine nq ?_
             refine W.cond_false rfl rfl ?_
             refine sr ?_
             refine omv ?_
             refine ov (viO (b := bA) (o := oA) (i := 0) 1 (hx := congrArg (fun a => some (Value.slice a l.length cap)) (hA (by omega)))) ?_
             refine ov (V_loadSrI (b := bA) (o := oA) (n := l.length) 0 (fun w hp => (hA (by omega)) ▸ hb w _ hp) (by kernel_rfl) rfl (by omega) (by omega)) ?_
             refine ov (v2 V_eql) ?_
             refine omv ?_
             refine WL.splitD rfl (fun g8 => ?_) (fun g8 => ?_)
             · refine oy rfl (decide_eq_true g8) ?_
               refine omv ?_
               refine ov (V_pick_td rfl g8 rfl) ?_
               refine oas ?_
               refine nq ?_
               refine W.cond rfl (fun g9 => ?_) (fun g9 => ?_)
               · refine W.seq ?_
                 refine W.region ?_
                 refine ov (vfa0 2 1) ?_
                 refine ost ?_
                 refine nq ?_
                 refine dr (.q 0 (.q 1 (.q 2 (.q 3 (.q 4 (.q 5 (.l 6 (.done)))))))) [(b6, _), (b, _)] ?_
                 refine dq rfl (V_move rfl) ?_
                 refine dq rfl vnil ?_
                 refine dq rfl (vfa0 1 1) ?_
                 refine dq rfl vld ?_
                 refine dq rfl (V_move rfl) ?_
                 refine dq rfl (vlda 3) ?_
                 refine WD.l ?_
                 refine dmu rfl ?_
                 refine WD.done ?_
                 refine WQ.block_normal ?_
                 refine WQ.ret0 (.inr rfl) Tryz.results62 ?_
                 intro w' hp; first | (exfalso; omega) | contradiction | (rw [tk_clr0 hq (by omega)]; exact ⟨by first | rfl | trivial, hp.cov cov⟩) | (rw [tk_clr ho hq (by omega), ← lmap, ← lclk]; simp only [stkV, idF, nowF]; exact ⟨by first | rfl | trivial, hp.cov cov⟩) | (rw [tk_add ho hq (by omega), ← lmap, ← lclk]; simp only [stkV, idF, nowF]; exact ⟨by first | rfl | trivial, hp.cov cov⟩) | (rw [tk_add0 hq (by omega)]; exact ⟨by first | rfl | trivial, hp.cov cov⟩)
               · refine W.skip ?_
                 refine WQ.block_normal ?_
                 refine WQ.ret0 (.inr rfl) Tryz.results62 ?_
                 intro w' hp; first | (exfalso; omega) | contradiction | (rw [tk_clr0 hq (by omega)]; exact ⟨by first | rfl | trivial, hp.cov cov⟩) | (rw [tk_clr ho hq (by omega), ← lmap, ← lclk]; simp only [stkV, idF, nowF]; exact ⟨by first | rfl | trivial, hp.cov cov⟩) | (rw [tk_add ho hq (by omega), ← lmap, ← lclk]; simp only [stkV, idF, nowF]; exact ⟨by first | rfl | trivial, hp.cov cov⟩) | (rw [tk_add0 hq (by omega)]; exact ⟨by first | rfl | trivial, hp.cov cov⟩)
             · refine on rfl (decide_eq_false g8) ?_
               refine ov (V_pick_fd rfl g8 rfl) ?_
               refine oas ?_
               refine nq ?_
               refine W.cond_false rfl rfl ?_
               refine W.skip ?_
               refine WQ.block_normal ?_
               refine WQ.ret0 (.inr rfl) Tryz.results62 ?_
               intro w' hp; first | (exfalso; omega) | contradiction | (rw [tk_clr0 hq (by omega)]; exact ⟨by first | rfl | trivial, hp.cov cov⟩) | (rw [tk_clr ho hq (by omega), ← lmap, ← lclk]; simp only [stkV, idF, nowF]; exact ⟨by first | rfl | trivial, hp.cov cov⟩) | (rw [tk_add ho hq (by omega), ← lmap, ← lclk]; simp only [stkV, idF, nowF]; exact ⟨by first | rfl | trivial, hp.cov cov⟩) | (rw [tk_add0 hq (by omega)]; exact ⟨by first | rfl | trivial, hp.cov cov⟩)
         · have hq : S.get (idF l) = none := by cases hx : S.get (idF l) with | none => rfl | some s => exact absurd ⟨s, hx⟩ hq
           refine W.region ?_
           refine omv ?_
           refine ov vnil ?_
           refine ov (vfa0 1 1) ?_
           refine ov vld ?_
           refine omv ?_
           refine ov (vlkN 112 (AG [(1, [.int .i64 0]), (1, [.int .i64 0]), (1, [.bool false])]) (lget_no hq)) ?_
           refine omv ?_
           refine ov vex ?_
           refine ov vex ?_
           refine oal [(1, [.int .i64 0]), (1, [.int .i64 0]), (1, [.bool false])] (fun b6 => ?_)
           refine osta 3 ?_
           refine oas ?_
           refine nq ?_
           refine W.block ?_
           refine sr ?_
           refine omv ?_
           refine ov (viO (b := bA) (o := oA) (i := 0) 1 (hx := congrArg (fun a => some (Value.slice a l.length cap)) (hA (by omega)))) ?_
           refine ov (V_loadSrI (b := bA) (o := oA) (n := l.length) 0 (fun w hp => (hA (by omega)) ▸ hb w _ hp) (by kernel_rfl) rfl (by omega) (by omega)) ?_
           refine ov (v2 V_eql) ?_
           refine omv ?_
           refine WL.splitD rfl (fun g10 => ?_) (fun g10 => ?_)
           · refine oy rfl (decide_eq_true g10) ?_
             refine omv ?_
             refine oy rfl (decide_eq_true g10) ?_
             refine ov vnot ?_
             refine ov (V_pick_td rfl g10 rfl) ?_
             refine oas ?_
             refine nq ?_
             refine W.cond_true rfl rfl ?_
             refine dr (.q 0 (.q 1 (.q 2 (.q 3 (.q 4 (.q 5 (.q 6 (.q 7 (.q 8 (.q 9 (.q 10 (.l 11 (.done))))))))))))) [(b, _)] ?_
             refine dq rfl (V_move rfl) ?_
             refine dq rfl vnil ?_
             refine dq rfl (vfa0 1 1) ?_
             refine dq rfl vld ?_
             refine dq rfl (V_move rfl) ?_
             refine dq rfl (V_move rfl) ?_
             refine dq rfl (viO (b := bA) (o := oA) (i := 1) 1 (hx := congrArg (fun a => some (Value.slice a l.length cap)) (hA (by omega)))) ?_
             refine dq rfl (V_loadSrI (b := bA) (o := oA) (n := l.length) 1 (fun w hp => (hA (by omega)) ▸ hb w _ hp) (by kernel_rfl) rfl (by omega) (by omega)) ?_
             first | refine dq rfl (vcvN .i64) ?_ | refine dq rfl (vcv .i64) ?_
             refine dq rfl (V_move rfl) ?_
             refine dq rfl (V_build (by kernel_rfl) (zi (zs := [(1, [.int .i64 0]), (1, [.int .i64 0]), (1, [.bool false])])) (.one (k := 0) rfl rfl (by kernel_rfl) rfl (.one (k := 1) rfl rfl (by kernel_rfl) rfl (.nil _)))) ?_
             refine WD.l ?_
             refine dmu rfl ?_
             refine WD.done ?_
             refine WQ.block_normal ?_
             refine WQ.ret0 (.inr rfl) Tryz.results62 ?_
             intro w' hp; first | (exfalso; omega) | contradiction | (rw [tk_clr0 hq (by omega)]; exact ⟨by first | rfl | trivial, hp.cov cov⟩) | (rw [tk_clr ho hq (by omega), ← lmap, ← lclk]; simp only [stkV, idF, nowF]; exact ⟨by first | rfl | trivial, hp.cov cov⟩) | (rw [tk_add ho hq (by omega), ← lmap, ← lclk]; simp only [stkV, idF, nowF]; exact ⟨by first | rfl | trivial, hp.cov cov⟩) | (rw [tk_add0 hq (by omega)]; exact ⟨by first | rfl | trivial, hp.cov cov⟩)
           · refine on rfl (decide_eq_false g10) ?_
             refine on rfl (decide_eq_false g10) ?_
             refine ov (V_pick_fd rfl g10 rfl) ?_
             refine oas ?_
             refine nq ?_
             refine W.cond_false rfl rfl ?_
             refine sr ?_
             refine omv ?_
             refine ov (viO (b := bA) (o := oA) (i := 0) 1 (hx := congrArg (fun a => some (Value.slice a l.length cap)) (hA (by omega)))) ?_
             refine ov (V_loadSrI (b := bA) (o := oA) (n := l.length) 0 (fun w hp => (hA (by omega)) ▸ hb w _ hp) (by kernel_rfl) rfl (by omega) (by omega)) ?_
             refine ov (v2 V_eql) ?_
             refine omv ?_
             refine WL.splitD rfl (fun g11 => ?_) (fun g11 => ?_)
             · refine oy rfl (decide_eq_true g11) ?_
               refine omv ?_
               refine ov (V_pick_td rfl g11 rfl) ?_
               refine oas ?_
               refine nq ?_
               refine W.cond rfl (fun g12 => ?_) (fun g12 => ?_)
               · refine W.seq ?_
                 refine W.region ?_
                 refine ov (vfa0 2 1) ?_
                 refine ost ?_
                 refine nq ?_
                 refine dr (.q 0 (.q 1 (.q 2 (.q 3 (.q 4 (.q 5 (.l 6 (.done)))))))) [(b6, _), (b, _)] ?_
                 refine dq rfl (V_move rfl) ?_
                 refine dq rfl vnil ?_
                 refine dq rfl (vfa0 1 1) ?_
                 refine dq rfl vld ?_
                 refine dq rfl (V_move rfl) ?_
                 refine dq rfl (vlda 3) ?_
                 refine WD.l ?_
                 refine dmu rfl ?_
                 refine WD.done ?_
                 refine WQ.block_normal ?_
                 refine WQ.ret0 (.inr rfl) Tryz.results62 ?_
                 intro w' hp; first | (exfalso; omega) | contradiction | (rw [tk_clr0 hq (by omega)]; exact ⟨by first | rfl | trivial, hp.cov cov⟩) | (rw [tk_clr ho hq (by omega), ← lmap, ← lclk]; simp only [stkV, idF, nowF]; exact ⟨by first | rfl | trivial, hp.cov cov⟩) | (rw [tk_add ho hq (by omega), ← lmap, ← lclk]; simp only [stkV, idF, nowF]; exact ⟨by first | rfl | trivial, hp.cov cov⟩) | (rw [tk_add0 hq (by omega)]; exact ⟨by first | rfl | trivial, hp.cov cov⟩)
               · refine W.skip ?_
                 refine WQ.block_normal ?_
                 refine WQ.ret0 (.inr rfl) Tryz.results62 ?_
                 intro w' hp; first | (exfalso; omega) | contradiction | (rw [tk_clr0 hq (by omega)]; exact ⟨by first | rfl | trivial, hp.cov cov⟩) | (rw [tk_clr ho hq (by omega), ← lmap, ← lclk]; simp only [stkV, idF, nowF]; exact ⟨by first | rfl | trivial, hp.cov cov⟩) | (rw [tk_add ho hq (by omega), ← lmap, ← lclk]; simp only [stkV, idF, nowF]; exact ⟨by first | rfl | trivial, hp.cov cov⟩) | (rw [tk_add0 hq (by omega)]; exact ⟨by first | rfl | trivial, hp.cov cov⟩)
             · refine on rfl (decide_eq_false g11) ?_
               refine ov (V_pick_fd rfl g11 rfl) ?_
               refine oas ?_
               refine nq ?_
               refine W.cond_false rfl rfl ?_
               refine W.skip ?_
               refine WQ.block_normal ?_
               refine WQ.ret0 (.inr rfl) Tryz.results62 ?_
               intro w' hp; first | (exfalso; omega) | contradiction | (rw [tk_clr0 hq (by omega)]; exact ⟨by first | rfl | trivial, hp.cov cov⟩) | (rw [tk_clr ho hq (by omega), ← lmap, ← lclk]; simp only [stkV, idF, nowF]; exact ⟨by first | rfl | trivial, hp.cov cov⟩) | (rw [tk_add ho hq (by omega), ← lmap, ← lclk]; simp only [stkV, idF, nowF]; exact ⟨by first | rfl | trivial, hp.cov cov⟩) | (rw [tk_add0 hq (by omega)]; exact ⟨by first | rfl | trivial, hp.cov cov⟩)

end Go.Proofs.YtmeckbjinmgbbaaGreat