/- Strikes: a record is gone through. -/
import Derived.Test.YtmeckbjinmgbbaaGreatLaws22
import Derived.Test.YtmeckbjinmgbbaaGreatXC
set_option linter.unusedVariables false
set_option linter.unusedSimpArgs false

namespace Go.Proofs.YtmeckbjinmgbbaaGreat
open Go.X
def tmB (n : Int) : Bool := decide (0 ≤ n) && decide (n ≤ 1000000)
theorem tmB_t {n : Int} (h : 0 ≤ n ∧ n ≤ 1000000) : tmB n = true := by simp only [tmB, Bool.and_eq_true, decide_eq_true_eq]; exact h
theorem tmB_of {n : Int} (h : tmB n = true) : 0 ≤ n ∧ n ≤ 1000000 := by simpa only [tmB, Bool.and_eq_true, decide_eq_true_eq] using h
structure Stk where
  a : Int
  t : Int
  c : Bool
def stkV (s : Stk) : Value := AG [(1, [.int .i64 s.a]), (1, [.int .i64 s.t]), (1, [.bool s.c])]
structure LS where
  m : List (KEnt Stk)
  ck : Nat
def LS.put (S : LS) (i : Int) (s : Stk) : LS := ⟨kput S.m S.ck i s, kck S.m S.ck i⟩
def LS.get (S : LS) (i : Int) : Option Stk := kget S.m i
theorem LS.get_put {S : LS} {i j : Int} {s : Stk} : (S.put i s).get j = if i = j then some s else S.get j := kget_put
def idF (l : List Int) : Int := numH (((l.drop 2).take (6 - 2)).take 8)
def nowF (l : List Int) : Int := numH ((l.drop 6).take 8)
def tkOK (l : List Int) : Bool := decide (l.length = 10) && decide (l.getD 1 0 < 8) && (tmB (idF l) && tmB (nowF l))
/-- A record gone through. -/
def tk (S : LS) (l : List Int) : LS :=
  if tkOK l = true then
    match S.get (idF l) with
    | none => if l.getD 0 0 = 1 then S.put (idF l) ⟨l.getD 1 0, nowF l, false⟩ else S
    | some s => if l.getD 0 0 = 2 then S.put (idF l) ⟨s.a, s.t, true⟩ else S
  else S
theorem tk_bad {S : LS} {l : List Int} (h : ¬ tkOK l = true) : tk S l = S := if_neg h
theorem tk_add {S : LS} {l : List Int} (h : tkOK l = true) (h2 : S.get (idF l) = none) (h3 : l.getD 0 0 = 1) : tk S l = S.put (idF l) ⟨l.getD 1 0, nowF l, false⟩ := by unfold tk; rw [if_pos h, h2]; exact if_pos h3
theorem tk_add0 {S : LS} {l : List Int} (h2 : S.get (idF l) = none) (h3 : ¬ l.getD 0 0 = 1) : tk S l = S := by
  by_cases h : tkOK l = true
  · unfold tk; rw [if_pos h, h2]; exact if_neg h3
  · exact tk_bad h
theorem tk_clr {S : LS} {l : List Int} {s : Stk} (h : tkOK l = true) (h2 : S.get (idF l) = some s) (h3 : l.getD 0 0 = 2) : tk S l = S.put (idF l) ⟨s.a, s.t, true⟩ := by unfold tk; rw [if_pos h, h2]; exact if_pos h3
theorem tk_clr0 {S : LS} {l : List Int} {s : Stk} (h2 : S.get (idF l) = some s) (h3 : ¬ l.getD 0 0 = 2) : tk S l = S := by
  by_cases h : tkOK l = true
  · unfold tk; rw [if_pos h, h2]; exact if_neg h3
  · exact tk_bad h
structure LOK (S : LS) : Prop where
  k : KOK S.m S.ck
  e : ∀ e ∈ S.m, (0 ≤ e.1 ∧ e.1 ≤ 1000000) ∧ (0 ≤ e.2.1.a ∧ e.2.1.a < 8) ∧ (0 ≤ e.2.1.t ∧ e.2.1.t ≤ 1000000)
theorem LOK.nil {ck : Nat} : LOK ⟨[], ck⟩ := ⟨.nil, fun e h => by cases h⟩
theorem LOK.put {S : LS} (h : LOK S) {i : Int} {s : Stk} (hi : 0 ≤ i ∧ i ≤ 1000000) (ha : 0 ≤ s.a ∧ s.a < 8) (ht : 0 ≤ s.t ∧ s.t ≤ 1000000) : LOK (S.put i s) :=
  ⟨h.k.put, fun e he => by
    rcases kput_mem he with he | ⟨h1, h2, _⟩
    · exact h.e e he
    · rw [h1, h2]; exact ⟨hi, ha, ht⟩⟩
theorem LOK.get {S : LS} (h : LOK S) {i : Int} {s : Stk} (hs : S.get i = some s) : (0 ≤ i ∧ i ≤ 1000000) ∧ (0 ≤ s.a ∧ s.a < 8) ∧ (0 ≤ s.t ∧ s.t ≤ 1000000) := by
  obtain ⟨n, hn⟩ := kget_mem hs
  exact h.e _ hn
theorem tkOK_of {l : List Int} (h : tkOK l = true) : (l.length = 10 ∧ l.getD 1 0 < 8) ∧ (0 ≤ idF l ∧ idF l ≤ 1000000) ∧ 0 ≤ nowF l ∧ nowF l ≤ 1000000 := by
  simp only [tkOK, Bool.and_eq_true, decide_eq_true_eq] at h
  exact ⟨h.1, tmB_of h.2.1, tmB_of h.2.2⟩
theorem tk_ok {S : LS} (h : LOK S) {l : List Int} (hb : bytes l) : LOK (tk S l) := by
  unfold tk; split
  · rename_i ho
    obtain ⟨_, h2, h3⟩ := tkOK_of ho
    split
    · split
      · exact h.put h2 ⟨(hb.get 1).1, by simp only [tkOK, Bool.and_eq_true, decide_eq_true_eq] at ho; exact ho.1.2⟩ h3
      · exact h
    · rename_i s hs
      split
      · exact h.put h2 (h.get hs).2.1 (h.get hs).2.2
      · exact h
  · exact h
theorem numH_bd23 {l : List Int} (hb : bytes l) (h : l.length ≤ 4) : 0 ≤ numH (l.take 8) ∧ numH (l.take 8) ≤ 4294967295 := by
  have := numH_bd hb l.length (Nat.le_refl _) (by omega)
  rw [List.take_of_length_le (Nat.le_refl _)] at this
  rw [List.take_of_length_le (by omega)]
  omega
theorem lmap {S : LS} {i : Int} {s : Stk} : mput (S.m.map (gE stkV)) S.ck i (stkV s) = (S.put i s).m.map (gE stkV) := mput_gE
theorem lclk {S : LS} {i : Int} {s : Stk} : mclk (S.m.map (gE stkV)) S.ck i = (S.put i s).ck := mclk_gE
theorem lget_some {S : LS} {i : Int} {s : Stk} (h : S.get i = some s) : mget (S.m.map (gE stkV)) i = some (AG [(1, [.int .i64 s.a]), (1, [.int .i64 s.t]), (1, [.bool s.c])]) := by
  rw [mget_gE, show kget S.m i = some s from h]; rfl
theorem lget_no {S : LS} {i : Int} (h : S.get i = none) : mget (S.m.map (gE stkV)) i = none := by rw [mget_gE, show kget S.m i = none from h]; rfl

theorem time23_calls (n : Int) (w : World) : Calls Tryz.prog 82 [.int .i64 n].toArray w fun e w' => e = .returned (.bool (tmB n)) ∧ HP w w' [] [] := by
 refine calls_of_W Tryz.func82 rfl Tryz.ntmps82 rfl rfl (HP.refl w []) ?_
 refine sr ?_
 refine oas ?_
 refine nx ?_
 refine omv ?_
 refine ov (v2 V_geq) ?_
 refine omv ?_
 refine WL.splitD rfl (fun g1 => ?_) (fun g1 => ?_)
 · refine oy rfl (decide_eq_true g1) ?_
   refine omv ?_
   refine oy rfl (decide_eq_true g1) ?_
   refine ov (v2 V_leq) ?_
   refine ov (V_pick_td rfl g1 rfl) ?_
   refine oas ?_
   refine nq ?_
   refine W.ret ?_
   refine WQ.ret1 Tryz.results82 (.tmp rfl) ?_
   intro w' hp; exact ⟨by simp [tmB, *], hp.forget⟩
 · refine on rfl (decide_eq_false g1) ?_
   refine on rfl (decide_eq_false g1) ?_
   refine ov (V_pick_fd rfl g1 rfl) ?_
   refine oas ?_
   refine nq ?_
   refine W.ret ?_
   refine WQ.ret1 Tryz.results82 (.tmp rfl) ?_
   intro w' hp; exact ⟨by simp [tmB, *], hp.forget⟩

theorem take23_calls (b mb j : Nat) (S : LS) (hok : LOK S) (A : Option Addr) (n cap : Nat) (l : List Int) (hbb : bytes l) (hn : n ≤ cap) (hbl : n = l.length) (hn2 : n ≤ 1000000) (w : World) (hp0 : HP w w [b, mb] [(b, .cells [(1, [.pointer (some ⟨j, 0, none⟩)]), (1, [.map (some mb)])] 110), (mb, .obj (mapO .i64 (S.m.map (gE stkV)) S.ck))]) (hb : ∀ w' M, HP w w' [b, mb] M → SrW w' 1 A n (iv .u8 l)) :
    Calls Tryz.prog 62 [.pointer (some ⟨b, 0, none⟩), .slice A n cap].toArray w fun e w' => e = .returned (.tuple #[]) ∧ HP w w' [b, mb] [(b, .cells [(1, [.pointer (some ⟨j, 0, none⟩)]), (1, [.map (some mb)])] 110), (mb, .obj (mapO .i64 ((tk S l).m.map (gE stkV)) (tk S l).ck))] := by
 subst hbl
 obtain ⟨bA, oA, hA⟩ : ∃ bA oA, 0 < l.length → A = some ⟨bA, oA, none⟩ := by
   by_cases h : 0 < l.length
   · obtain ⟨x, y, z⟩ := (hb w _ hp0).hasN h; exact ⟨x, y, fun _ => z⟩
   · exact ⟨0, 0, fun h2 => absurd h2 h⟩
 refine calls_of_W Tryz.func62 rfl Tryz.ntmps62 rfl rfl hp0 ?_
 refine W.seq ?_
 refine sr ?_
 refine omv ?_
 refine ov vlenS ?_
 refine ov (v2 V_neq) ?_
 refine omv ?_
 refine WL.splitD rfl (fun g1 => ?_) (fun g1 => ?_)
 · refine on rfl (decide_eq_true g1) ?_
   refine on rfl (decide_eq_true g1) ?_
   refine on rfl (decide_eq_true g1) ?_
   refine on rfl (decide_eq_true g1) ?_
   refine ov (V_pick_td rfl g1 rfl) ?_
   refine nq ?_
   refine W.cond_true rfl rfl ?_
   refine W.ret ?_
   refine WQ.then_ret ?_
   refine WQ.ret0 (.inl rfl) Tryz.results62 ?_
   intro w' hp; rw [tk_bad (l := l) (by intro h; obtain ⟨⟨h1, h2⟩, h3, h4⟩ := tkOK_of h; first | omega | (have e3 := tmB_t h3; have e4 := tmB_t h4; unfold idF at e3; unfold nowF at e4; simp_all; done))]; exact ⟨rfl, hp.cov cov⟩
 · refine oy rfl (decide_eq_false g1) ?_
   refine omv ?_
   refine oy rfl (decide_eq_false g1) ?_
   refine ov (viO (b := bA) (o := oA) (i := 1) 1 (hx := congrArg (fun a => some (Value.slice a l.length cap)) (hA (by omega)))) ?_
   refine oy rfl (decide_eq_false g1) ?_
   refine ov (V_loadSrI (b := bA) (o := oA) (n := l.length) 1 (fun w hp => (hA (by omega)) ▸ hb w _ hp) (by kernel_rfl) rfl (by omega) (by omega)) ?_
   refine oy rfl (decide_eq_false g1) ?_
   refine ov (v2 V_geq) ?_
   refine ov (V_pick_fd rfl g1 rfl) ?_
   refine nq ?_
   refine W.cond_dec rfl (fun g2 => ?_) (fun g2 => ?_)
   · refine W.ret ?_
     refine WQ.then_ret ?_
     refine WQ.ret0 (.inl rfl) Tryz.results62 ?_
     intro w' hp; rw [tk_bad (l := l) (by intro h; obtain ⟨⟨h1, h2⟩, h3, h4⟩ := tkOK_of h; first | omega | (have e3 := tmB_t h3; have e4 := tmB_t h4; unfold idF at e3; unfold nowF at e4; simp_all; done))]; exact ⟨rfl, hp.cov cov⟩
   · refine W.skip ?_
     refine WQ.then ?_
     refine W.seq ?_
     have hb1 := hbb.get 1
     have hi4 := numH_bd23 ((hbb.drop 2).take (6 - 2)) (by simp; omega)
     have hn4 := numH_bd23 (hbb.drop 6) (by simp; omega)
     refine dr (.q 0 (.q 1 (.q 4 (.q 5 (.l 2 (.q 3 (.l 6 (.q 7 (.q 8 (.q 9 (.done))))))))))) [] ?_
     refine dq rfl (V_move rfl) ?_
     refine dq rfl (vsl (l := 2) (h := 6) 1) ?_
     refine dq rfl (V_move rfl) ?_
     refine dq rfl (vsl (l := 6) 1) ?_
     refine WD.l ?_
     refine dcp rfl rfl (fun w hp => ofHigh_calls _ _ _ ((l.drop 2).take (6 - 2)) w (by have hs1 := hb w _ hp; exact sw) ((hbb.drop 2).take _) (by omega) (by omega)) ?_
     first | refine dq rfl (vcvN .i64) ?_ | refine dq rfl (vcv .i64) ?_
     refine WD.l ?_
     refine dcp rfl rfl (fun w hp => ofHigh_calls _ _ _ (l.drop 6) w (by have hs1 := hb w _ hp; exact sw) (hbb.drop 6) (by omega) (by omega)) ?_
     first | refine dq rfl (vcvN .i64) ?_ | refine dq rfl (vcv .i64) ?_
     refine dq rfl (V_assign rfl) ?_
     refine dq rfl (V_assign rfl) ?_
     refine WD.done ?_
     refine WQ.then ?_
     refine W.seq ?_
     refine sr ?_
     refine omv ?_
     refine cp rfl (fun w hp => time23_calls _ w) ?_
     refine ov vnot ?_
     refine omv ?_
     refine WL.split rfl (fun g3 => ?_) (fun g3 => ?_)
     · refine on rfl g3 ?_
       refine on rfl g3 ?_
       refine on rfl g3 ?_
       refine ov (V_pick_t rfl g3 rfl) ?_
       refine nq ?_
       refine W.cond_true rfl rfl ?_
       refine W.ret ?_
       refine WQ.then_ret ?_
       refine WQ.ret0 (.inl rfl) Tryz.results62 ?_
       intro w' hp; rw [tk_bad (l := l) (by intro h; obtain ⟨⟨h1, h2⟩, h3, h4⟩ := tkOK_of h; first | omega | (have e3 := tmB_t h3; have e4 := tmB_t h4; unfold idF at e3; unfold nowF at e4; simp_all; done))]; exact ⟨rfl, hp.cov cov⟩
     · refine oy rfl g3 ?_
       refine omv ?_
       refine oy rfl g3 ?_
       refine cp rfl (fun w hp => time23_calls _ w) ?_
       refine oy rfl g3 ?_
       refine ov vnot ?_
       refine ov (V_pick_f rfl g3 rfl) ?_
       refine nq ?_
       refine W.cond rfl (fun g4 => ?_) (fun g4 => ?_)
       · refine W.ret ?_
         refine WQ.then_ret ?_
         refine WQ.ret0 (.inl rfl) Tryz.results62 ?_
         intro w' hp; rw [tk_bad (l := l) (by intro h; obtain ⟨⟨h1, h2⟩, h3, h4⟩ := tkOK_of h; first | omega | (have e3 := tmB_t h3; have e4 := tmB_t h4; unfold idF at e3; unfold nowF at e4; simp_all; done))]; exact ⟨rfl, hp.cov cov⟩
       · refine W.skip ?_
         refine WQ.then ?_
         refine W.seq ?_
         have ho : tkOK l = true := by
           simp only [tkOK, Bool.and_eq_true, decide_eq_true_eq]; exact ⟨⟨by omega, by omega⟩, by simpa [idF] using g3, by simpa [nowF] using g4⟩
         by_cases hq : ∃ s, S.get (idF l) = some s
         · obtain ⟨s, hq⟩ := hq
           refine W.region ?_
           refine omv ?_
           refine ov vnil ?_
           refine ov (vfa0 1 1) ?_
           refine ov vld ?_
           refine omv ?_
           refine ov (vlkS (lget_some hq)) ?_
           refine omv ?_
           refine ov vex ?_
           refine ov vex ?_
           refine oal [(1, [.int .i64 0]), (1, [.int .i64 0]), (1, [.bool false])] (fun b6 => ?_)
           refine osta 3 ?_
           refine oas ?_
           refine nq ?_
           refine W.block ?_
           refine sr ?_
           refine omv ?_
           refine ov (viO (b := bA) (o := oA) (i := 0) 1 (hx := congrArg (fun a => some (Value.slice a l.length cap)) (hA (by omega)))) ?_
           refine ov (V_loadSrI (b := bA) (o := oA) (n := l.length) 0 (fun w hp => (hA (by omega)) ▸ hb w _ hp) (by kernel_rfl) rfl (by omega) (by omega)) ?_
           refine ov (v2 V_eql) ?_
           refine omv ?_
           refine WL.splitD rfl (fun g5 => ?_) (fun g5 => ?_)
           · refine oy rfl (decide_eq_true g5) ?_
             refine omv ?_
             refine oy rfl (decide_eq_true g5) ?_
             refine ov vnot ?_
             refine ov (V_pick_td rfl g5 rfl) ?_
             refine oas ?_
             refine nq ?_
             refine W.cond_false rfl rfl ?_
             refine sr ?_
             refine omv ?_
             refine ov (viO (b := bA) (o := oA) (i := 0) 1 (hx := congrArg (fun a => some (Value.slice a l.length cap)) (hA (by omega)))) ?_
             refine ov (V_loadSrI (b := bA) (o := oA) (n := l.length) 0 (fun w hp => (hA (by omega)) ▸ hb w _ hp) (by kernel_rfl) rfl (by omega) (by omega)) ?_
             refine ov (v2 V_eql) ?_
             refine omv ?_
             refine WL.splitD rfl (fun g6 => ?_) (fun g6 => ?_)
             · refine oy rfl (decide_eq_true g6) ?_
               refine omv ?_
               refine ov (V_pick_td rfl g6 rfl) ?_
               refine oas ?_
               refine nq ?_
               refine W.cond rfl (fun g7 => ?_) (fun g7 => ?_)
               · refine W.seq ?_
                 refine W.region ?_
                 refine ov (vfa0 2 1) ?_
                 refine ost ?_
                 refine nq ?_
                 refine dr (.q 0 (.q 1 (.q 2 (.q 3 (.q 4 (.q 5 (.l 6 (.done)))))))) [(b6, _), (b, _)] ?_
                 refine dq rfl (V_move rfl) ?_
                 refine dq rfl vnil ?_
                 refine dq rfl (vfa0 1 1) ?_
                 refine dq rfl vld ?_
                 refine dq rfl (V_move rfl) ?_
                 refine dq rfl (vlda 3) ?_
                 refine WD.l ?_
                 refine dmu rfl ?_
                 refine WD.done ?_
                 refine WQ.block_normal ?_
                 refine WQ.ret0 (.inr rfl) Tryz.results62 ?_
                 intro w' hp; first | (exfalso; omega) | contradiction | (rw [tk_clr0 hq (by omega)]; exact ⟨by first | rfl | trivial, hp.cov cov⟩) | (rw [tk_clr ho hq (by omega), ← lmap, ← lclk]; simp only [stkV, idF, nowF]; exact ⟨by first | rfl | trivial, hp.cov cov⟩) | (rw [tk_add ho hq (by omega), ← lmap, ← lclk]; simp only [stkV, idF, nowF]; exact ⟨by first | rfl | trivial, hp.cov cov⟩) | (rw [tk_add0 hq (by omega)]; exact ⟨by first | rfl | trivial, hp.cov cov⟩)
               · refine W.skip ?_
                 refine WQ.block_normal ?_
                 refine WQ.ret0 (.inr rfl) Tryz.results62 ?_
                 intro w' hp; first | (exfalso; omega) | contradiction | (rw [tk_clr0 hq (by omega)]; exact ⟨by first | rfl | trivial, hp.cov cov⟩) | (rw [tk_clr ho hq (by omega), ← lmap, ← lclk]; simp only [stkV, idF, nowF]; exact ⟨by first | rfl | trivial, hp.cov cov⟩) | (rw [tk_add ho hq (by omega), ← lmap, ← lclk]; simp only [stkV, idF, nowF]; exact ⟨by first | rfl | trivial, hp.cov cov⟩) | (rw [tk_add0 hq (by omega)]; exact ⟨by first | rfl | trivial, hp.cov cov⟩)
             · refine on rfl (decide_eq_false g6) ?_
               refine ov (V_pick_fd rfl g6 rfl) ?_
               refine oas ?_
               refine nq ?_
               refine W.cond_false rfl rfl ?_
               refine W.skip ?_
               refine WQ.block_normal ?_
               refine WQ.ret0 (.inr rfl) Tryz.results62 ?_
               intro w' hp; first | (exfalso; omega) | contradiction | (rw [tk_clr0 hq (by omega)]; exact ⟨by first | rfl | trivial, hp.cov cov⟩) | (rw [tk_clr ho hq (by omega), ← lmap, ← lclk]; simp only [stkV, idF, nowF]; exact ⟨by first | rfl | trivial, hp.cov cov⟩) | (rw [tk_add ho hq (by omega), ← lmap, ← lclk]; simp only [stkV, idF, nowF]; exact ⟨by first | rfl | trivial, hp.cov cov⟩) | (rw [tk_add0 hq (by omega)]; exact ⟨by first | rfl | trivial, hp.cov cov⟩)
           · refine on rfl (decide_eq_false g5) ?_
             refine on rfl (decide_eq_false g5) ?_
             refine ov (V_pick_fd rfl g5 rfl) ?_
             refine oas ?_
             refine nq ?_
             refine W.cond_false rfl rfl ?_
             refine sr ?_
             refine omv ?_
             refine ov (viO (b := bA) (o := oA) (i := 0) 1 (hx := congrArg (fun a => some (Value.slice a l.length cap)) (hA (by omega)))) ?_
             refine ov (V_loadSrI (b := bA) (o := oA) (n := l.length) 0 (fun w hp => (hA (by omega)) ▸ hb w _ hp) (by kernel_rfl) rfl (by omega) (by omega)) ?_
             refine ov (v2 V_eql) ?_
             refine omv ?_
             refine WL.splitD rfl (fun g8 => ?_) (fun g8 => ?_)
             · refine oy rfl (decide_eq_true g8) ?_
               refine omv ?_
               refine ov (V_pick_td rfl g8 rfl) ?_
               refine oas ?_
               refine nq ?_
               refine W.cond rfl (fun g9 => ?_) (fun g9 => ?_)
               · refine W.seq ?_
                 refine W.region ?_
                 refine ov (vfa0 2 1) ?_
                 refine ost ?_
                 refine nq ?_
                 refine dr (.q 0 (.q 1 (.q 2 (.q 3 (.q 4 (.q 5 (.l 6 (.done)))))))) [(b6, _), (b, _)] ?_
                 refine dq rfl (V_move rfl) ?_
                 refine dq rfl vnil ?_
                 refine dq rfl (vfa0 1 1) ?_
                 refine dq rfl vld ?_
                 refine dq rfl (V_move rfl) ?_
                 refine dq rfl (vlda 3) ?_
                 refine WD.l ?_
                 refine dmu rfl ?_
                 refine WD.done ?_
                 refine WQ.block_normal ?_
                 refine WQ.ret0 (.inr rfl) Tryz.results62 ?_
                 intro w' hp; first | (exfalso; omega) | contradiction | (rw [tk_clr0 hq (by omega)]; exact ⟨by first | rfl | trivial, hp.cov cov⟩) | (rw [tk_clr ho hq (by omega), ← lmap, ← lclk]; simp only [stkV, idF, nowF]; exact ⟨by first | rfl | trivial, hp.cov cov⟩) | (rw [tk_add ho hq (by omega), ← lmap, ← lclk]; simp only [stkV, idF, nowF]; exact ⟨by first | rfl | trivial, hp.cov cov⟩) | (rw [tk_add0 hq (by omega)]; exact ⟨by first | rfl | trivial, hp.cov cov⟩)
               · refine W.skip ?_
                 refine WQ.block_normal ?_
                 refine WQ.ret0 (.inr rfl) Tryz.results62 ?_
                 intro w' hp; first | (exfalso; omega) | contradiction | (rw [tk_clr0 hq (by omega)]; exact ⟨by first | rfl | trivial, hp.cov cov⟩) | (rw [tk_clr ho hq (by omega), ← lmap, ← lclk]; simp only [stkV, idF, nowF]; exact ⟨by first | rfl | trivial, hp.cov cov⟩) | (rw [tk_add ho hq (by omega), ← lmap, ← lclk]; simp only [stkV, idF, nowF]; exact ⟨by first | rfl | trivial, hp.cov cov⟩) | (rw [tk_add0 hq (by omega)]; exact ⟨by first | rfl | trivial, hp.cov cov⟩)
             · refine on rfl (decide_eq_false g8) ?_
               refine ov (V_pick_fd rfl g8 rfl) ?_
               refine oas ?_
               refine nq ?_
               refine W.cond_false rfl rfl ?_
               refine W.skip ?_
               refine WQ.block_normal ?_
               refine WQ.ret0 (.inr rfl) Tryz.results62 ?_
               intro w' hp; first | (exfalso; omega) | contradiction | (rw [tk_clr0 hq (by omega)]; exact ⟨by first | rfl | trivial, hp.cov cov⟩) | (rw [tk_clr ho hq (by omega), ← lmap, ← lclk]; simp only [stkV, idF, nowF]; exact ⟨by first | rfl | trivial, hp.cov cov⟩) | (rw [tk_add ho hq (by omega), ← lmap, ← lclk]; simp only [stkV, idF, nowF]; exact ⟨by first | rfl | trivial, hp.cov cov⟩) | (rw [tk_add0 hq (by omega)]; exact ⟨by first | rfl | trivial, hp.cov cov⟩)
         · have hq : S.get (idF l) = none := by cases hx : S.get (idF l) with | none => rfl | some s => exact absurd ⟨s, hx⟩ hq
           refine W.region ?_
           refine omv ?_
           refine ov vnil ?_
           refine ov (vfa0 1 1) ?_
           refine ov vld ?_
           refine omv ?_
           refine ov (vlkN 112 (AG [(1, [.int .i64 0]), (1, [.int .i64 0]), (1, [.bool false])]) (lget_no hq)) ?_
           refine omv ?_
           refine ov vex ?_
           refine ov vex ?_
           refine oal [(1, [.int .i64 0]), (1, [.int .i64 0]), (1, [.bool false])] (fun b6 => ?_)
           refine osta 3 ?_
           refine oas ?_
           refine nq ?_
           refine W.block ?_
           refine sr ?_
           refine omv ?_
           refine ov (viO (b := bA) (o := oA) (i := 0) 1 (hx := congrArg (fun a => some (Value.slice a l.length cap)) (hA (by omega)))) ?_
           refine ov (V_loadSrI (b := bA) (o := oA) (n := l.length) 0 (fun w hp => (hA (by omega)) ▸ hb w _ hp) (by kernel_rfl) rfl (by omega) (by omega)) ?_
           refine ov (v2 V_eql) ?_
           refine omv ?_
           refine WL.splitD rfl (fun g10 => ?_) (fun g10 => ?_)
           · refine oy rfl (decide_eq_true g10) ?_
             refine omv ?_
             refine oy rfl (decide_eq_true g10) ?_
             refine ov vnot ?_
             refine ov (V_pick_td rfl g10 rfl) ?_
             refine oas ?_
             refine nq ?_
             refine W.cond_true rfl rfl ?_
             refine dr (.q 0 (.q 1 (.q 2 (.q 3 (.q 4 (.q 5 (.q 6 (.q 7 (.q 8 (.q 9 (.q 10 (.l 11 (.done))))))))))))) [(b, _)] ?_
             refine dq rfl (V_move rfl) ?_
             refine dq rfl vnil ?_
             refine dq rfl (vfa0 1 1) ?_
             refine dq rfl vld ?_
             refine dq rfl (V_move rfl) ?_
             refine dq rfl (V_move rfl) ?_
             refine dq rfl (viO (b := bA) (o := oA) (i := 1) 1 (hx := congrArg (fun a => some (Value.slice a l.length cap)) (hA (by omega)))) ?_
             refine dq rfl (V_loadSrI (b := bA) (o := oA) (n := l.length) 1 (fun w hp => (hA (by omega)) ▸ hb w _ hp) (by kernel_rfl) rfl (by omega) (by omega)) ?_
             first | refine dq rfl (vcvN .i64) ?_ | refine dq rfl (vcv .i64) ?_
             refine dq rfl (V_move rfl) ?_
             refine dq rfl (V_build (by kernel_rfl) (zi (zs := [(1, [.int .i64 0]), (1, [.int .i64 0]), (1, [.bool false])])) (.one (k := 0) rfl rfl (by kernel_rfl) rfl (.one (k := 1) rfl rfl (by kernel_rfl) rfl (.nil _)))) ?_
             refine WD.l ?_
             refine dmu rfl ?_
             refine WD.done ?_
             refine WQ.block_normal ?_
             refine WQ.ret0 (.inr rfl) Tryz.results62 ?_
             intro w' hp; first | (exfalso; omega) | contradiction | (rw [tk_clr0 hq (by omega)]; exact ⟨by first | rfl | trivial, hp.cov cov⟩) | (rw [tk_clr ho hq (by omega), ← lmap, ← lclk]; simp only [stkV, idF, nowF]; exact ⟨by first | rfl | trivial, hp.cov cov⟩) | (rw [tk_add ho hq (by omega), ← lmap, ← lclk]; simp only [stkV, idF, nowF]; exact ⟨by first | rfl | trivial, hp.cov cov⟩) | (rw [tk_add0 hq (by omega)]; exact ⟨by first | rfl | trivial, hp.cov cov⟩)
           · refine on rfl (decide_eq_false g10) ?_
             refine on rfl (decide_eq_false g10) ?_
             refine ov (V_pick_fd rfl g10 rfl) ?_
             refine oas ?_
             refine nq ?_
             refine W.cond_false rfl rfl ?_
             refine sr ?_
             refine omv ?_
             refine ov (viO (b := bA) (o := oA) (i := 0) 1 (hx := congrArg (fun a => some (Value.slice a l.length cap)) (hA (by omega)))) ?_
             refine ov (V_loadSrI (b := bA) (o := oA) (n := l.length) 0 (fun w hp => (hA (by omega)) ▸ hb w _ hp) (by kernel_rfl) rfl (by omega) (by omega)) ?_
             refine ov (v2 V_eql) ?_
             refine omv ?_
             refine WL.splitD rfl (fun g11 => ?_) (fun g11 => ?_)
             · refine oy rfl (decide_eq_true g11) ?_
               refine omv ?_
               refine ov (V_pick_td rfl g11 rfl) ?_
               refine oas ?_
               refine nq ?_
               refine W.cond rfl (fun g12 => ?_) (fun g12 => ?_)
               · refine W.seq ?_
                 refine W.region ?_
                 refine ov (vfa0 2 1) ?_
                 refine ost ?_
                 refine nq ?_
                 refine dr (.q 0 (.q 1 (.q 2 (.q 3 (.q 4 (.q 5 (.l 6 (.done)))))))) [(b6, _), (b, _)] ?_
                 refine dq rfl (V_move rfl) ?_
                 refine dq rfl vnil ?_
                 refine dq rfl (vfa0 1 1) ?_
                 refine dq rfl vld ?_
                 refine dq rfl (V_move rfl) ?_
                 refine dq rfl (vlda 3) ?_
                 refine WD.l ?_
                 refine dmu rfl ?_
                 refine WD.done ?_
                 refine WQ.block_normal ?_
                 refine WQ.ret0 (.inr rfl) Tryz.results62 ?_
                 intro w' hp; first | (exfalso; omega) | contradiction | (rw [tk_clr0 hq (by omega)]; exact ⟨by first | rfl | trivial, hp.cov cov⟩) | (rw [tk_clr ho hq (by omega), ← lmap, ← lclk]; simp only [stkV, idF, nowF]; exact ⟨by first | rfl | trivial, hp.cov cov⟩) | (rw [tk_add ho hq (by omega), ← lmap, ← lclk]; simp only [stkV, idF, nowF]; exact ⟨by first | rfl | trivial, hp.cov cov⟩) | (rw [tk_add0 hq (by omega)]; exact ⟨by first | rfl | trivial, hp.cov cov⟩)
               · refine W.skip ?_
                 refine WQ.block_normal ?_
                 refine WQ.ret0 (.inr rfl) Tryz.results62 ?_
                 intro w' hp; first | (exfalso; omega) | contradiction | (rw [tk_clr0 hq (by omega)]; exact ⟨by first | rfl | trivial, hp.cov cov⟩) | (rw [tk_clr ho hq (by omega), ← lmap, ← lclk]; simp only [stkV, idF, nowF]; exact ⟨by first | rfl | trivial, hp.cov cov⟩) | (rw [tk_add ho hq (by omega), ← lmap, ← lclk]; simp only [stkV, idF, nowF]; exact ⟨by first | rfl | trivial, hp.cov cov⟩) | (rw [tk_add0 hq (by omega)]; exact ⟨by first | rfl | trivial, hp.cov cov⟩)
             · refine on rfl (decide_eq_false g11) ?_
               refine ov (V_pick_fd rfl g11 rfl) ?_
               refine oas ?_
               refine nq ?_
               refine W.cond_false rfl rfl ?_
               refine W.skip ?_
               refine WQ.block_normal ?_
               refine WQ.ret0 (.inr rfl) Tryz.results62 ?_
               intro w' hp; first | (exfalso; omega) | contradiction | (rw [tk_clr0 hq (by omega)]; exact ⟨by first | rfl | trivial, hp.cov cov⟩) | (rw [tk_clr ho hq (by omega), ← lmap, ← lclk]; simp only [stkV, idF, nowF]; exact ⟨by first | rfl | trivial, hp.cov cov⟩) | (rw [tk_add ho hq (by omega), ← lmap, ← lclk]; simp only [stkV, idF, nowF]; exact ⟨by first | rfl | trivial, hp.cov cov⟩) | (rw [tk_add0 hq (by omega)]; exact ⟨by first | rfl | trivial, hp.cov cov⟩)

end Go.Proofs.YtmeckbjinmgbbaaGreat
/- Strikes: a record kept; strikes added, cleared, told. -/
namespace Go.Proofs.YtmeckbjinmgbbaaGreat
open Go.X
def recS (k a id now : Int) : List Int := ([k, a] ++ highF id 4) ++ highF now 4
theorem recS_len {k a id now : Int} : (recS k a id now).length = 10 := by simp [recS]
theorem recS_bytes {k a id now : Int} (hk : 0 ≤ k ∧ k ≤ 255) (ha : 0 ≤ a ∧ a ≤ 255) : bytes (recS k a id now) := ((bytes_cons.2 ⟨hk, bytes_cons.2 ⟨ha, bytes_nil⟩⟩).app highF_bytes).app highF_bytes
/-- What is asked for: refused, or a record. -/
abbrev Ask := Int ⊕ List Int
def goE (D : DS) (m : Nat) : Ask → Int
  | .inl e => e
  | .inr l => apE D m l
def goD (D : DS) (m : Nat) : Ask → DS
  | .inl _ => D
  | .inr l => apD D m l
def goL (D : DS) (ll : List (List Int)) : Ask → List (List Int)
  | .inl _ => ll
  | .inr l => apL D ll l
def goS (D : DS) (m : Nat) (S : LS) : Ask → LS
  | .inl _ => S
  | .inr l => if apE D m l = 0 then tk S l else S
theorem goS_yes {D : DS} {m : Nat} {S : LS} {l : List Int} (h : apE D m l = 0) : goS D m S (.inr l) = tk S l := if_pos h
theorem goS_no {D : DS} {m : Nat} {S : LS} {l : List Int} (h : ¬ apE D m l = 0) : goS D m S (.inr l) = S := if_neg h
def acB23 (n : Int) : Bool := decide (0 ≤ n) && decide (n < 8)
theorem acB23_of {n : Int} (h : acB23 n = true) : 0 ≤ n ∧ n < 8 := by simpa only [acB23, Bool.and_eq_true, decide_eq_true_eq] using h
def adOK (a id now : Int) : Bool := acB23 a && (tmB id && tmB now)
def adQ (S : LS) (a id now : Int) : Ask := if adOK a id now = true then (if (S.get id).isSome = true then .inl 9 else .inr (recS 1 a id now)) else .inl 1
theorem adOK_of {a id now : Int} (h : adOK a id now = true) : (0 ≤ a ∧ a < 8) ∧ tmB id = true ∧ tmB now = true := by
  simp only [adOK, Bool.and_eq_true] at h; exact ⟨acB23_of h.1, h.2⟩
theorem adQ_bad {S : LS} {a id now : Int} (h : ¬ adOK a id now = true) : adQ S a id now = .inl 1 := if_neg h
theorem adQ_old {S : LS} {a id now : Int} {s : Stk} (h : adOK a id now = true) (h2 : S.get id = some s) : adQ S a id now = .inl 9 := by unfold adQ; rw [if_pos h, h2]; rfl
theorem adQ_new {S : LS} {a id now : Int} (h : adOK a id now = true) (h2 : S.get id = none) : adQ S a id now = .inr (recS 1 a id now) := by unfold adQ; rw [if_pos h, h2]; rfl
def clQ (S : LS) (id now : Int) : Ask := if (tmB id && tmB now) = true then
    match S.get id with
    | none => .inl 7
    | some s => if s.c = true then .inl 5 else .inr (recS 2 s.a id now)
  else .inl 1
theorem clQ_new {S : LS} {id now : Int} {s : Stk} (h : (tmB id && tmB now) = true) (h2 : S.get id = some s) (h3 : ¬ s.c = true) : clQ S id now = .inr (recS 2 s.a id now) := by unfold clQ; rw [if_pos h, h2]; exact if_neg h3

theorem keep23_calls (K : DK) (D : DS) (hok : DOK D) (j : Nat) (g : GR) (hg : g.OK) (hgn : g.rs.length ≤ D.n) (b mb : Nat) (S : LS) (hls : LOK S) (kd a id now : Int) (hkd : 0 ≤ kd ∧ kd ≤ 255) (ha : 0 ≤ a ∧ a < 8) (hid : 0 ≤ id ∧ id ≤ 1000000) (hnow : 0 ≤ now ∧ now ≤ 1000000) (w : World) (hp0 : HP w w (((K.d, .cells [(1, [.slice (some ⟨K.s, 0, none⟩) D.n D.n]), (1, [.map (some K.m)]), (1, [.int .i64 D.fuse]), (1, [.bool D.dead])] 74) :: (K.s, .cells [(D.n * 64, iv .u8 D.sure.flatten)] 115) :: (K.m, .obj (mapO .i64 (D.m.map sE) D.ck)) :: (j, .cells [(1, [.pointer (some ⟨K.d, 0, none⟩)]), (1, [.int .i64 (g.rs.length : Nat)]), (1, [.int .i64 (D.n : Nat)]), (1, [.slice (gA g.o) g.rs.length (gC g.o)])] 146) :: (b, .cells [(1, [.pointer (some ⟨j, 0, none⟩)]), (1, [.map (some mb)])] 110) :: (mb, .obj (mapO .i64 (S.m.map (gE stkV)) S.ck)) :: gRL 5 35 g : List (Nat × Blk)).map (·.1)) ((K.d, .cells [(1, [.slice (some ⟨K.s, 0, none⟩) D.n D.n]), (1, [.map (some K.m)]), (1, [.int .i64 D.fuse]), (1, [.bool D.dead])] 74) :: (K.s, .cells [(D.n * 64, iv .u8 D.sure.flatten)] 115) :: (K.m, .obj (mapO .i64 (D.m.map sE) D.ck)) :: (j, .cells [(1, [.pointer (some ⟨K.d, 0, none⟩)]), (1, [.int .i64 (g.rs.length : Nat)]), (1, [.int .i64 (D.n : Nat)]), (1, [.slice (gA g.o) g.rs.length (gC g.o)])] 146) :: (b, .cells [(1, [.pointer (some ⟨j, 0, none⟩)]), (1, [.map (some mb)])] 110) :: (mb, .obj (mapO .i64 (S.m.map (gE stkV)) S.ck)) :: gRL 5 35 g : List (Nat × Blk))) :
    Calls Tryz.prog 83 [.pointer (some ⟨b, 0, none⟩), .int .u8 kd, .int .i64 a, .int .i64 id, .int .i64 now].toArray w fun e w' => ∃ r : GR, (r.OK ∧ r.ll = goL D g.ll (.inr (recS kd a id now))) ∧ e = .returned (.int .i64 (goE D g.rs.length (.inr (recS kd a id now)))) ∧ HP w w' (((K.d, .cells [(1, [.slice (some ⟨K.s, 0, none⟩) D.n D.n]), (1, [.map (some K.m)]), (1, [.int .i64 D.fuse]), (1, [.bool D.dead])] 74) :: (K.s, .cells [(D.n * 64, iv .u8 D.sure.flatten)] 115) :: (K.m, .obj (mapO .i64 (D.m.map sE) D.ck)) :: (j, .cells [(1, [.pointer (some ⟨K.d, 0, none⟩)]), (1, [.int .i64 (g.rs.length : Nat)]), (1, [.int .i64 (D.n : Nat)]), (1, [.slice (gA g.o) g.rs.length (gC g.o)])] 146) :: (b, .cells [(1, [.pointer (some ⟨j, 0, none⟩)]), (1, [.map (some mb)])] 110) :: (mb, .obj (mapO .i64 (S.m.map (gE stkV)) S.ck)) :: gRL 5 35 g : List (Nat × Blk)).map (·.1)) ((K.d, .cells [(1, [.slice (some ⟨K.s, 0, none⟩) (goD D g.rs.length (.inr (recS kd a id now))).n (goD D g.rs.length (.inr (recS kd a id now))).n]), (1, [.map (some K.m)]), (1, [.int .i64 (goD D g.rs.length (.inr (recS kd a id now))).fuse]), (1, [.bool (goD D g.rs.length (.inr (recS kd a id now))).dead])] 74) :: (K.s, .cells [((goD D g.rs.length (.inr (recS kd a id now))).n * 64, iv .u8 (goD D g.rs.length (.inr (recS kd a id now))).sure.flatten)] 115) :: (K.m, .obj (mapO .i64 ((goD D g.rs.length (.inr (recS kd a id now))).m.map sE) (goD D g.rs.length (.inr (recS kd a id now))).ck)) :: (j, .cells [(1, [.pointer (some ⟨K.d, 0, none⟩)]), (1, [.int .i64 (r.rs.length : Nat)]), (1, [.int .i64 ((goD D g.rs.length (.inr (recS kd a id now))).n : Nat)]), (1, [.slice (gA r.o) r.rs.length (gC r.o)])] 146) :: (b, .cells [(1, [.pointer (some ⟨j, 0, none⟩)]), (1, [.map (some mb)])] 110) :: (mb, .obj (mapO .i64 ((goS D g.rs.length S (.inr (recS kd a id now))).m.map (gE stkV)) (goS D g.rs.length S (.inr (recS kd a id now))).ck)) :: gRL 5 35 r : List (Nat × Blk)) := by
 have hn1 := hok.n1
 have hn64 := hok.n64
 have hrb := recS_bytes (k := kd) (a := a) (id := id) (now := now) hkd (by omega)
 refine calls_of_W Tryz.func83 rfl Tryz.ntmps83 rfl rfl hp0 ?_
 refine sr ?_
 refine oas ?_
 refine nx ?_
 refine omv ?_
 refine omv ?_
 first | refine ov (vcvN .u8) ?_ | refine ov (vcv .u8) ?_
 refine obsI (k := .u8) 5 1 [_, _] (fun b16 => ?_)
 refine omv ?_
 first | refine ov (vcvN .u64) ?_ | refine ov (vcv .u64) ?_
 refine cg rfl (fun w hp => high_calls _ 4 w sc) (fun b19 h19 => ?_)
 refine oap 5 1 (fun b20 c20 r20 h20 => ?_)
 refine oas ?_
 refine nx ?_
 refine omv ?_
 refine omv ?_
 first | refine ov (vcvN .u64) ?_ | refine ov (vcv .u64) ?_
 refine cg rfl (fun w hp => high_calls _ 4 w sc) (fun b24 h24 => ?_)
 refine oap 5 1 (fun b25 c25 r25 h25 => ?_)
 refine oas ?_
 refine nx ?_
 refine omv ?_
 refine ov vnil ?_
 refine ov (vfa0 0 1) ?_
 refine ov vld ?_
 refine omv ?_
 refine cgP _ rfl (fun w hp => append22_calls K D hok j g hg hgn (some ⟨b25, 0, none⟩) 10 c25 (recS kd a id now) hrb (by omega) recS_len.symm w (HP.here hp cov) (fun w1 M h1 => Sr.pastP hp h1 (hs := by exact Sr.own at_ iv_one))) (fun r31 h31 => ?_)
 simp only [List.cons_append, List.nil_append, List.append_nil, List.append_assoc]
 refine WL.back (gRL 5 35 r31) ?_
 simp only [List.cons_append, List.nil_append, List.append_nil, List.append_assoc]
 refine oas ?_
 refine nq ?_
 refine W.seq ?_
 refine sr ?_
 refine omv ?_
 refine ov (v2 V_eql) ?_
 refine nq ?_
 refine W.cond_dec rfl (fun g1 => ?_) (fun g1 => ?_)
 · refine W.region ?_
   refine omv ?_
   refine omv ?_
   refine cms rfl (fun w hp => take23_calls b mb j S hls (some ⟨b25, 0, none⟩) 10 c25 (recS kd a id now) hrb (by omega) recS_len.symm (by omega) w (HP.here hp cov) (fun w1 M h1 => Sr.past hp h1 (hs := by exact Sr.own at_ iv_one))) ?_
   refine nx ?_
   refine omv ?_
   refine oas ?_
   refine nq ?_
   refine W.ret ?_
   refine WQ.ret1 Tryz.results83 (.tmp rfl) ?_
   intro w' hp; refine ⟨r31, h31, rfl, ?_⟩; rw [goS_yes (by simpa using g1)]; exact hp.cov cov
 · refine W.skip ?_
   refine WQ.then ?_
   refine sr ?_
   refine omv ?_
   refine oas ?_
   refine nq ?_
   refine W.ret ?_
   refine WQ.ret1 Tryz.results83 (.tmp rfl) ?_
   intro w' hp; refine ⟨r31, h31, rfl, ?_⟩; rw [goS_no (by simpa using g1)]; exact hp.cov cov

theorem add23_calls (K : DK) (D : DS) (hok : DOK D) (j : Nat) (g : GR) (hg : g.OK) (hgn : g.rs.length ≤ D.n) (b mb : Nat) (S : LS) (hls : LOK S) (a id now : Int) (w : World) (hp0 : HP w w (((K.d, .cells [(1, [.slice (some ⟨K.s, 0, none⟩) D.n D.n]), (1, [.map (some K.m)]), (1, [.int .i64 D.fuse]), (1, [.bool D.dead])] 74) :: (K.s, .cells [(D.n * 64, iv .u8 D.sure.flatten)] 115) :: (K.m, .obj (mapO .i64 (D.m.map sE) D.ck)) :: (j, .cells [(1, [.pointer (some ⟨K.d, 0, none⟩)]), (1, [.int .i64 (g.rs.length : Nat)]), (1, [.int .i64 (D.n : Nat)]), (1, [.slice (gA g.o) g.rs.length (gC g.o)])] 146) :: (b, .cells [(1, [.pointer (some ⟨j, 0, none⟩)]), (1, [.map (some mb)])] 110) :: (mb, .obj (mapO .i64 (S.m.map (gE stkV)) S.ck)) :: gRL 5 35 g : List (Nat × Blk)).map (·.1)) ((K.d, .cells [(1, [.slice (some ⟨K.s, 0, none⟩) D.n D.n]), (1, [.map (some K.m)]), (1, [.int .i64 D.fuse]), (1, [.bool D.dead])] 74) :: (K.s, .cells [(D.n * 64, iv .u8 D.sure.flatten)] 115) :: (K.m, .obj (mapO .i64 (D.m.map sE) D.ck)) :: (j, .cells [(1, [.pointer (some ⟨K.d, 0, none⟩)]), (1, [.int .i64 (g.rs.length : Nat)]), (1, [.int .i64 (D.n : Nat)]), (1, [.slice (gA g.o) g.rs.length (gC g.o)])] 146) :: (b, .cells [(1, [.pointer (some ⟨j, 0, none⟩)]), (1, [.map (some mb)])] 110) :: (mb, .obj (mapO .i64 (S.m.map (gE stkV)) S.ck)) :: gRL 5 35 g : List (Nat × Blk))) :
    Calls Tryz.prog 189 [.pointer (some ⟨b, 0, none⟩), .int .i64 a, .int .i64 id, .int .i64 now].toArray w fun e w' => ∃ r : GR, (r.OK ∧ r.ll = goL D g.ll (adQ S a id now)) ∧ e = .returned (.int .i64 (goE D g.rs.length (adQ S a id now))) ∧ HP w w' (((K.d, .cells [(1, [.slice (some ⟨K.s, 0, none⟩) D.n D.n]), (1, [.map (some K.m)]), (1, [.int .i64 D.fuse]), (1, [.bool D.dead])] 74) :: (K.s, .cells [(D.n * 64, iv .u8 D.sure.flatten)] 115) :: (K.m, .obj (mapO .i64 (D.m.map sE) D.ck)) :: (j, .cells [(1, [.pointer (some ⟨K.d, 0, none⟩)]), (1, [.int .i64 (g.rs.length : Nat)]), (1, [.int .i64 (D.n : Nat)]), (1, [.slice (gA g.o) g.rs.length (gC g.o)])] 146) :: (b, .cells [(1, [.pointer (some ⟨j, 0, none⟩)]), (1, [.map (some mb)])] 110) :: (mb, .obj (mapO .i64 (S.m.map (gE stkV)) S.ck)) :: gRL 5 35 g : List (Nat × Blk)).map (·.1)) ((K.d, .cells [(1, [.slice (some ⟨K.s, 0, none⟩) (goD D g.rs.length (adQ S a id now)).n (goD D g.rs.length (adQ S a id now)).n]), (1, [.map (some K.m)]), (1, [.int .i64 (goD D g.rs.length (adQ S a id now)).fuse]), (1, [.bool (goD D g.rs.length (adQ S a id now)).dead])] 74) :: (K.s, .cells [((goD D g.rs.length (adQ S a id now)).n * 64, iv .u8 (goD D g.rs.length (adQ S a id now)).sure.flatten)] 115) :: (K.m, .obj (mapO .i64 ((goD D g.rs.length (adQ S a id now)).m.map sE) (goD D g.rs.length (adQ S a id now)).ck)) :: (j, .cells [(1, [.pointer (some ⟨K.d, 0, none⟩)]), (1, [.int .i64 (r.rs.length : Nat)]), (1, [.int .i64 ((goD D g.rs.length (adQ S a id now)).n : Nat)]), (1, [.slice (gA r.o) r.rs.length (gC r.o)])] 146) :: (b, .cells [(1, [.pointer (some ⟨j, 0, none⟩)]), (1, [.map (some mb)])] 110) :: (mb, .obj (mapO .i64 ((goS D g.rs.length S (adQ S a id now)).m.map (gE stkV)) (goS D g.rs.length S (adQ S a id now)).ck)) :: gRL 5 35 r : List (Nat × Blk)) := by
 have hn1 := hok.n1
 have hn64 := hok.n64
 refine calls_of_W Tryz.func189 rfl Tryz.ntmps189 rfl rfl hp0 ?_
 refine sr ?_
 refine oas ?_
 refine nq ?_
 refine W.seq ?_
 refine sr ?_
 refine omv ?_
 refine ov (v2 V_lss) ?_
 refine omv ?_
 refine WL.splitD rfl (fun g1 => ?_) (fun g1 => ?_)
 · refine on rfl (decide_eq_true g1) ?_
   refine on rfl (decide_eq_true g1) ?_
   refine ov (V_pick_td rfl g1 rfl) ?_
   refine omv ?_
   refine on rfl rfl ?_
   refine on rfl rfl ?_
   refine on rfl rfl ?_
   refine ov (V_pick_t rfl rfl rfl) ?_
   refine omv ?_
   refine on rfl rfl ?_
   refine on rfl rfl ?_
   refine on rfl rfl ?_
   refine ov (V_pick_t rfl rfl rfl) ?_
   refine nq ?_
   refine W.cond_true rfl rfl ?_
   refine sr ?_
   refine oas ?_
   refine nq ?_
   refine W.ret ?_
   refine WQ.then_ret ?_
   refine WQ.ret1 Tryz.results189 (.tmp rfl) ?_
   intro w' hp; rw [adQ_bad (S := S) (by intro h; obtain ⟨h1, h2, h3⟩ := adOK_of h; first | omega | (simp_all; done))]; exact ⟨g, ⟨hg, rfl⟩, rfl, hp.cov cov⟩
 · refine oy rfl (decide_eq_false g1) ?_
   refine omv ?_
   refine oy rfl (decide_eq_false g1) ?_
   refine ov (v2 V_geq) ?_
   refine ov (V_pick_fd rfl g1 rfl) ?_
   refine omv ?_
   refine WL.splitD rfl (fun g2 => ?_) (fun g2 => ?_)
   · refine on rfl (decide_eq_true g2) ?_
     refine on rfl (decide_eq_true g2) ?_
     refine on rfl (decide_eq_true g2) ?_
     refine ov (V_pick_td rfl g2 rfl) ?_
     refine omv ?_
     refine on rfl rfl ?_
     refine on rfl rfl ?_
     refine on rfl rfl ?_
     refine ov (V_pick_t rfl rfl rfl) ?_
     refine nq ?_
     refine W.cond_true rfl rfl ?_
     refine sr ?_
     refine oas ?_
     refine nq ?_
     refine W.ret ?_
     refine WQ.then_ret ?_
     refine WQ.ret1 Tryz.results189 (.tmp rfl) ?_
     intro w' hp; rw [adQ_bad (S := S) (by intro h; obtain ⟨h1, h2, h3⟩ := adOK_of h; first | omega | (simp_all; done))]; exact ⟨g, ⟨hg, rfl⟩, rfl, hp.cov cov⟩
   · refine oy rfl (decide_eq_false g2) ?_
     refine omv ?_
     refine oy rfl (decide_eq_false g2) ?_
     refine cp rfl (fun w hp => time23_calls _ w) ?_
     refine oy rfl (decide_eq_false g2) ?_
     refine ov vnot ?_
     refine ov (V_pick_fd rfl g2 rfl) ?_
     refine omv ?_
     refine WL.split rfl (fun g3 => ?_) (fun g3 => ?_)
     · refine on rfl g3 ?_
       refine on rfl g3 ?_
       refine on rfl g3 ?_
       refine ov (V_pick_t rfl g3 rfl) ?_
       refine nq ?_
       refine W.cond_true rfl rfl ?_
       refine sr ?_
       refine oas ?_
       refine nq ?_
       refine W.ret ?_
       refine WQ.then_ret ?_
       refine WQ.ret1 Tryz.results189 (.tmp rfl) ?_
       intro w' hp; rw [adQ_bad (S := S) (by intro h; obtain ⟨h1, h2, h3⟩ := adOK_of h; first | omega | (simp_all; done))]; exact ⟨g, ⟨hg, rfl⟩, rfl, hp.cov cov⟩
     · refine oy rfl g3 ?_
       refine omv ?_
       refine oy rfl g3 ?_
       refine cp rfl (fun w hp => time23_calls _ w) ?_
       refine oy rfl g3 ?_
       refine ov vnot ?_
       refine ov (V_pick_f rfl g3 rfl) ?_
       refine nq ?_
       refine W.cond rfl (fun g4 => ?_) (fun g4 => ?_)
       · refine W.seq ?_
         refine W.region ?_
         refine oas ?_
         refine nq ?_
         refine W.ret ?_
         refine WQ.then_ret ?_
         refine WQ.ret1 Tryz.results189 (.tmp rfl) ?_
         intro w' hp; rw [adQ_bad (S := S) (by intro h; obtain ⟨h1, h2, h3⟩ := adOK_of h; first | omega | (simp_all; done))]; exact ⟨g, ⟨hg, rfl⟩, rfl, hp.cov cov⟩
       · refine W.skip ?_
         refine WQ.then ?_
         refine W.seq ?_
         refine W.seq ?_
         have hti : tmB id = true := by simpa using g3
         have htn : tmB now = true := by simpa using g4
         have hgo : adOK a id now = true := by simp only [adOK, acB23, Bool.and_eq_true, decide_eq_true_eq]; exact ⟨⟨by omega, by omega⟩, hti, htn⟩
         by_cases hq : ∃ s, S.get id = some s
         · obtain ⟨s, hq⟩ := hq
           have hsb := hls.get hq
           refine W.region ?_
           refine omv ?_
           refine ov vnil ?_
           refine ov (vfa0 1 1) ?_
           refine ov vld ?_
           refine omv ?_
           refine ov (vlkS (lget_some hq)) ?_
           refine omv ?_
           refine ov vex ?_
           refine ov vex ?_
           refine oal [(1, [.int .i64 0]), (1, [.int .i64 0]), (1, [.bool false])] (fun b9 => ?_)
           refine osta 3 ?_
           refine oas ?_
           refine nx ?_
           refine omv ?_
           refine nq ?_
           refine W.cond_true rfl rfl ?_
           refine sr ?_
           refine oas ?_
           refine nq ?_
           refine W.ret ?_
           refine WQ.then_ret ?_
           refine WQ.ret1 Tryz.results189 (.tmp rfl) ?_
           intro w' hp; rw [adQ_old hgo hq]; exact ⟨g, ⟨hg, rfl⟩, rfl, hp.cov cov⟩
         · have hq : S.get id = none := by cases hx : S.get id with | none => rfl | some s => exact absurd ⟨s, hx⟩ hq
           refine W.region ?_
           refine omv ?_
           refine ov vnil ?_
           refine ov (vfa0 1 1) ?_
           refine ov vld ?_
           refine omv ?_
           refine ov (vlkN 112 (AG [(1, [.int .i64 0]), (1, [.int .i64 0]), (1, [.bool false])]) (lget_no hq)) ?_
           refine omv ?_
           refine ov vex ?_
           refine ov vex ?_
           refine oal [(1, [.int .i64 0]), (1, [.int .i64 0]), (1, [.bool false])] (fun b9 => ?_)
           refine osta 3 ?_
           refine oas ?_
           refine nx ?_
           refine omv ?_
           refine nq ?_
           refine W.cond_false rfl rfl ?_
           refine W.skip ?_
           refine WQ.then ?_
           refine sr ?_
           refine omv ?_
           refine omv ?_
           refine omv ?_
           refine omv ?_
           refine cgP _ rfl (fun w hp => keep23_calls K D hok j g hg hgn b mb S hls 1 a id now (by omega) (by omega) (tmB_of (by assumption)) (tmB_of (by assumption)) w (HP.here hp cov)) (fun r41 h41 => ?_)
           simp only [List.cons_append, List.nil_append, List.append_nil, List.append_assoc]
           refine WL.back (gRL 5 35 r41) ?_
           simp only [List.cons_append, List.nil_append, List.append_nil, List.append_assoc]
           refine oas ?_
           refine nq ?_
           refine W.ret ?_
           refine WQ.ret1 Tryz.results189 (.tmp rfl) ?_
           intro w' hp; rw [adQ_new hgo hq]; exact ⟨r41, h41, rfl, hp.cov cov⟩

end Go.Proofs.YtmeckbjinmgbbaaGreat
/- Strikes: whose one is; how many count. -/
namespace Go.Proofs.YtmeckbjinmgbbaaGreat
open Go.X
def ofS (S : LS) (id : Int) : Stk := (S.get id).getD ⟨0, 0, false⟩
theorem ofS_some {S : LS} {id : Int} {s : Stk} (h : S.get id = some s) : ofS S id = s ∧ (S.get id).isSome = true := by unfold ofS; rw [h]; exact ⟨rfl, rfl⟩
theorem ofS_none {S : LS} {id : Int} (h : S.get id = none) : ofS S id = ⟨0, 0, false⟩ ∧ (S.get id).isSome = false := by unfold ofS; rw [h]; exact ⟨rfl, rfl⟩
def cnB (a now : Int) (s : Stk) : Bool := decide (s.a = a) && !s.c && decide (s.t ≤ now) && decide (now - s.t ≤ 100)
def cnt (m : List (KEnt Stk)) (a now : Int) : Nat := (m.filter fun e => cnB a now e.2.1).length
theorem cnt_snoc {m : List (KEnt Stk)} {a now : Int} {e : KEnt Stk} : cnt (m ++ [e]) a now = cnt m a now + if cnB a now e.2.1 = true then 1 else 0 := by
  unfold cnt
  rw [List.filter_append, List.length_append]
  by_cases h : cnB a now e.2.1 = true
  · simp [h]
  · simp [h]
theorem cnt_perm {m dn : List (KEnt Stk)} {a now : Int} (h : dn.Perm m) : cnt dn a now = cnt m a now := (h.filter _).length_eq
theorem nodup_le {α : Type} : ∀ {l m : List α}, l.Nodup → (∀ x ∈ l, x ∈ m) → l.length ≤ m.length
  | [], _, _, _ => Nat.zero_le _
  | a :: l, m, hl, h => by
    obtain ⟨s, t, rfl⟩ := List.append_of_mem (h a List.mem_cons_self)
    have hl' := List.nodup_cons.1 hl
    have := nodup_le (l := l) (m := s ++ t) hl'.2 fun x hx => by
      have hxa : x ≠ a := fun e => hl'.1 (e ▸ hx)
      rcases List.mem_append.1 (h x (List.mem_cons_of_mem _ hx)) with h1 | h1
      · exact List.mem_append_left _ h1
      · rcases List.mem_cons.1 h1 with h1 | h1
        · exact absurd h1 hxa
        · exact List.mem_append_right _ h1
    simp at this ⊢; omega
theorem cnt_bd {m dn : List (KEnt Stk)} {a now : Int} {k : Nat} (hn : (dn.map (·.2.2)).Nodup) (hs : ∀ e ∈ dn, e ∈ m) (hk : m.length ≤ k) : cnt dn a now ≤ k :=
  Nat.le_trans (List.length_filter_le _ _) (Nat.le_trans (nodup_le (nodup_map_of hn) hs) hk)
theorem dn_snoc {m dn : List (KEnt Stk)} {e : KEnt Stk} (h : ∀ x ∈ dn, x ∈ m) (he : e ∈ m) : ∀ x ∈ dn ++ [e], x ∈ m := fun x hx => by
  rcases List.mem_append.1 hx with hx | hx
  · exact h x hx
  · rw [List.mem_singleton.1 hx]; exact he
theorem of23_calls (b mb j : Nat) (S : LS) (hls : LOK S) (id : Int) (w : World) (hp0 : HP w w [b, mb] [(b, .cells [(1, [.pointer (some ⟨j, 0, none⟩)]), (1, [.map (some mb)])] 110), (mb, .obj (mapO .i64 (S.m.map (gE stkV)) S.ck))]) :
    Calls Tryz.prog 33 [.pointer (some ⟨b, 0, none⟩), .int .i64 id].toArray w fun e w' => e = .returned (.tuple #[.int .i64 (ofS S id).a, .bool (ofS S id).c, .bool (S.get id).isSome]) ∧ HP w w' [b, mb] [(b, .cells [(1, [.pointer (some ⟨j, 0, none⟩)]), (1, [.map (some mb)])] 110), (mb, .obj (mapO .i64 (S.m.map (gE stkV)) S.ck))] := by
 refine calls_of_W Tryz.func33 rfl Tryz.ntmps33 rfl rfl hp0 ?_
 refine sr ?_
 refine oas ?_
 refine oas ?_
 refine oas ?_
 refine nq ?_
 refine W.seq ?_
 by_cases hq : ∃ s, S.get id = some s
 · obtain ⟨s, hq⟩ := hq
   obtain ⟨e1, e2⟩ := ofS_some hq
   rw [e1, e2]
   refine W.region ?_
   refine omv ?_
   refine ov vnil ?_
   refine ov (vfa0 1 1) ?_
   refine ov vld ?_
   refine omv ?_
   refine ov (vlkS (lget_some hq)) ?_
   refine omv ?_
   refine ov vex ?_
   refine ov vex ?_
   refine oal [(1, [.int .i64 0]), (1, [.int .i64 0]), (1, [.bool false])] (fun b7 => ?_)
   refine osta 3 ?_
   refine oas ?_
   refine nq ?_
   refine W.seq ?_
   refine dr (.q 0 (.q 1 (.q 2 (.q 3 (.q 4 (.q 5 (.q 6 (.q 7 (.done))))))))) [(b7, _)] ?_
   refine dq rfl (vfa0 0 1) ?_
   refine dq rfl vld ?_
   refine dq rfl (vfa0 2 1) ?_
   refine dq rfl vld ?_
   refine dq rfl (V_move rfl) ?_
   refine dq rfl (V_assign rfl) ?_
   refine dq rfl (V_assign rfl) ?_
   refine dq rfl (V_assign rfl) ?_
   refine WD.done ?_
   refine WQ.then ?_
   refine W.ret ?_
   refine WQ.ret3 Tryz.results33 (.tmp rfl) (.tmp rfl) (.tmp rfl) ?_
   intro w' hp; exact ⟨rfl, hp.cov cov⟩
 · have hq : S.get id = none := by cases hx : S.get id with | none => rfl | some s => exact absurd ⟨s, hx⟩ hq
   obtain ⟨e1, e2⟩ := ofS_none hq
   rw [e1, e2]
   refine W.region ?_
   refine omv ?_
   refine ov vnil ?_
   refine ov (vfa0 1 1) ?_
   refine ov vld ?_
   refine omv ?_
   refine ov (vlkN 112 (AG [(1, [.int .i64 0]), (1, [.int .i64 0]), (1, [.bool false])]) (lget_no hq)) ?_
   refine omv ?_
   refine ov vex ?_
   refine ov vex ?_
   refine oal [(1, [.int .i64 0]), (1, [.int .i64 0]), (1, [.bool false])] (fun b7 => ?_)
   refine osta 3 ?_
   refine oas ?_
   refine nq ?_
   refine W.seq ?_
   refine dr (.q 0 (.q 1 (.q 2 (.q 3 (.q 4 (.q 5 (.q 6 (.q 7 (.done))))))))) [(b7, _)] ?_
   refine dq rfl (vfa0 0 1) ?_
   refine dq rfl vld ?_
   refine dq rfl (vfa0 2 1) ?_
   refine dq rfl vld ?_
   refine dq rfl (V_move rfl) ?_
   refine dq rfl (V_assign rfl) ?_
   refine dq rfl (V_assign rfl) ?_
   refine dq rfl (V_assign rfl) ?_
   refine WD.done ?_
   refine WQ.then ?_
   refine W.ret ?_
   refine WQ.ret3 Tryz.results33 (.tmp rfl) (.tmp rfl) (.tmp rfl) ?_
   intro w' hp; exact ⟨rfl, hp.cov cov⟩

theorem count23_calls (b mb j : Nat) (S : LS) (hls : LOK S) (hlen : S.m.length ≤ 1000000) (a now : Int) (hnow : -9223372036854775808 ≤ now ∧ now ≤ 9223372036854775807) (w : World) (hp0 : HP w w [b, mb] [(b, .cells [(1, [.pointer (some ⟨j, 0, none⟩)]), (1, [.map (some mb)])] 110), (mb, .obj (mapO .i64 (S.m.map (gE stkV)) S.ck))]) :
    Calls Tryz.prog 13 [.pointer (some ⟨b, 0, none⟩), .int .i64 a, .int .i64 now].toArray w fun e w' => e = .returned (.int .i64 (cnt S.m a now : Nat)) ∧ HP w w' [b, mb] [(b, .cells [(1, [.pointer (some ⟨j, 0, none⟩)]), (1, [.map (some mb)])] 110), (mb, .obj (mapO .i64 (S.m.map (gE stkV)) S.ck))] := by
 have hold : ∀ e ∈ S.m.map (gE stkV), e.2.2 < S.ck := by
   intro e he
   obtain ⟨pe, hpe, rfl⟩ := List.mem_map.1 he
   exact hls.k.old pe hpe
 have hborn : ((S.m.map (gE stkV)).map (·.2.2)).Nodup := by rw [List.map_map]; exact hls.k.borns
 refine calls_of_W Tryz.func13 rfl Tryz.ntmps13 rfl rfl hp0 ?_
 refine sr ?_
 refine oas ?_
 refine nx ?_
 refine oas ?_
 refine nq ?_
 refine W.seq ?_
 refine sr ?_
 refine omv ?_
 refine ov vnil ?_
 refine ov (vfa0 1 1) ?_
 refine ov vld ?_
 refine orng (fun b14 => ?_)
 refine nq ?_
 refine W.block ?_
 -- LOOP 0
 refine W.pick (S' := [(7, _), (0, _), (1, _), (2, _), (6, _), (14, _)]) [7, 0, 1, 2, 6, 14] rfl ?_
 refine W.loopG (σ := List (KEnt Stk) × Nat) (fun ⟨dn, n⟩ => (∀ e ∈ dn, e ∈ S.m) ∧ (dn.map (·.2.2)).Nodup ∧ n = cnt dn a now ∧ n ≤ 1000000) (fun ⟨dn, n⟩ => [(7, .int .i64 (n : Nat))]) (fun ⟨dn, n⟩ => [(b14, .obj (.mapIter (some mb) S.ck (dn.map (·.2.2)).toArray S.ck))]) [(b, _), (mb, _)] (fun ⟨dn, n⟩ => []) (fun ⟨dn, n⟩ => leftK S.m dn) ([], 0) rfl cov ⟨fun e he => (by cases he), List.nodup_nil, rfl, by omega⟩ ?_
 rintro ⟨dn, n⟩ ⟨hdn, hnd, hn, hn6⟩; dsimp only at hdn hnd hn hn6 ⊢
 refine sr ?_
 refine onext (fun h15 => ?_) (fun e15 m15 n15 => ?_)
 · refine ov vex ?_
   refine nq ?_
   refine W.seq ?_
   refine W.cond_false rfl rfl ?_
   refine W.exit ?_
   refine WQ.then_exit ?_
   refine WQ.then_exit ?_
   refine WQ.block_hit ?_
   refine WQ.then ?_
   refine W.seq ?_
   rw [hn, cnt_perm (seen_perm hls.k.borns hnd hdn (allK_seen hls.k.borns hdn h15))]
   refine W.region ?_
   refine omv ?_
   refine oas ?_
   refine nq ?_
   refine W.ret ?_
   refine WQ.ret1 Tryz.results13 (.tmp rfl) ?_
   intro w' hp; exact ⟨rfl, hp.cov cov⟩
 · refine ov vex ?_
   refine nq ?_
   refine W.seq ?_
   refine W.cond_true rfl rfl ?_
   refine W.skip ?_
   refine WQ.then ?_
   refine W.block ?_
   refine W.seq ?_
   obtain ⟨pe, hpe, rfl⟩ := List.mem_map.1 m15
   have hpE := hls.e pe hpe
   refine W.region ?_
   refine ov (vent m15) ?_
   refine ov vex ?_
   refine oal [(1, [.int .i64 0]), (1, [.int .i64 0]), (1, [.bool false])] (fun b9 => ?_)
   refine osta 3 ?_
   refine nx ?_
   refine ov (vfa0 0 1) ?_
   refine ov vld ?_
   refine omv ?_
   refine ov (v2 V_eql) ?_
   refine omv ?_
   refine WL.splitD rfl (fun g1 => ?_) (fun g1 => ?_)
   · refine oy rfl (decide_eq_true g1) ?_
     refine ov (vfa0 2 1) ?_
     refine oy rfl (decide_eq_true g1) ?_
     refine ov vld ?_
     refine oy rfl (decide_eq_true g1) ?_
     refine ov vnot ?_
     refine ov (V_pick_td rfl g1 rfl) ?_
     refine omv ?_
     refine WL.split rfl (fun g2 => ?_) (fun g2 => ?_)
     · refine oy rfl g2 ?_
       refine ov (vfa0 1 1) ?_
       refine oy rfl g2 ?_
       refine ov vld ?_
       refine oy rfl g2 ?_
       refine omv ?_
       refine oy rfl g2 ?_
       refine ov (v2 V_leq) ?_
       refine ov (V_pick_t rfl g2 rfl) ?_
       refine omv ?_
       refine WL.splitD rfl (fun g3 => ?_) (fun g3 => ?_)
       · refine oy rfl (decide_eq_true g3) ?_
         refine omv ?_
         refine oy rfl (decide_eq_true g3) ?_
         refine ov (vfa0 1 1) ?_
         refine oy rfl (decide_eq_true g3) ?_
         refine ov vld ?_
         refine oy rfl (decide_eq_true g3) ?_
         first | refine ov vsubN ?_ | refine ov vsub ?_
         refine oy rfl (decide_eq_true g3) ?_
         refine ov (v2 V_leq) ?_
         refine ov (V_pick_td rfl g3 rfl) ?_
         refine nq ?_
         refine W.cond_dec rfl (fun g4 => ?_) (fun g4 => ?_)
         · refine W.region ?_
           refine omv ?_
           first | refine ov vaddN ?_ | refine ov vadd ?_
           refine oas ?_
           refine WL.nil ?_
           refine WQ.block_normal ?_
           rw [seenK_push]
           exact ag (dn ++ [pe], n + 1) [7, 0, 1, 2, 6, 14] (by (try dsimp only); exact ⟨dn_snoc hdn hpe, seen_nodup hnd n15, by rw [cnt_snoc, if_pos (by simp [cnB, *]), hn], by have := cnt_bd (a := a) (now := now) (seen_nodup hnd n15) (dn_snoc hdn hpe) hlen; rw [cnt_snoc, if_pos (by simp [cnB, *]), ← hn] at this; exact this⟩) (leftK_less hpe n15) rfl cov
         · refine W.skip ?_
           refine WQ.block_normal ?_
           rw [seenK_push]
           exact ag (dn ++ [pe], n) [7, 0, 1, 2, 6, 14] (by (try dsimp only); exact ⟨dn_snoc hdn hpe, seen_nodup hnd n15, by rw [cnt_snoc, if_neg (by simp [cnB, *]), hn]; rfl, hn6⟩) (leftK_less hpe n15) rfl cov
       · refine on rfl (decide_eq_false g3) ?_
         refine on rfl (decide_eq_false g3) ?_
         refine on rfl (decide_eq_false g3) ?_
         refine on rfl (decide_eq_false g3) ?_
         refine on rfl (decide_eq_false g3) ?_
         refine ov (V_pick_fd rfl g3 rfl) ?_
         refine nq ?_
         refine W.cond_false rfl rfl ?_
         refine W.skip ?_
         refine WQ.block_normal ?_
         rw [seenK_push]
         exact ag (dn ++ [pe], n) [7, 0, 1, 2, 6, 14] (by (try dsimp only); exact ⟨dn_snoc hdn hpe, seen_nodup hnd n15, by rw [cnt_snoc, if_neg (by simp [cnB, *]), hn]; rfl, hn6⟩) (leftK_less hpe n15) rfl cov
     · refine on rfl g2 ?_
       refine on rfl g2 ?_
       refine on rfl g2 ?_
       refine on rfl g2 ?_
       refine ov (V_pick_f rfl g2 rfl) ?_
       refine omv ?_
       refine on rfl rfl ?_
       refine on rfl rfl ?_
       refine on rfl rfl ?_
       refine on rfl rfl ?_
       refine on rfl rfl ?_
       refine ov (V_pick_f rfl rfl rfl) ?_
       refine nq ?_
       refine W.cond_false rfl rfl ?_
       refine W.skip ?_
       refine WQ.block_normal ?_
       rw [seenK_push]
       exact ag (dn ++ [pe], n) [7, 0, 1, 2, 6, 14] (by (try dsimp only); exact ⟨dn_snoc hdn hpe, seen_nodup hnd n15, by rw [cnt_snoc, if_neg (by simp [cnB, *]), hn]; rfl, hn6⟩) (leftK_less hpe n15) rfl cov
   · refine on rfl (decide_eq_false g1) ?_
     refine on rfl (decide_eq_false g1) ?_
     refine on rfl (decide_eq_false g1) ?_
     refine ov (V_pick_fd rfl g1 rfl) ?_
     refine omv ?_
     refine on rfl rfl ?_
     refine on rfl rfl ?_
     refine on rfl rfl ?_
     refine on rfl rfl ?_
     refine ov (V_pick_f rfl rfl rfl) ?_
     refine omv ?_
     refine on rfl rfl ?_
     refine on rfl rfl ?_
     refine on rfl rfl ?_
     refine on rfl rfl ?_
     refine on rfl rfl ?_
     refine ov (V_pick_f rfl rfl rfl) ?_
     refine nq ?_
     refine W.cond_false rfl rfl ?_
     refine W.skip ?_
     refine WQ.block_normal ?_
     rw [seenK_push]
     exact ag (dn ++ [pe], n) [7, 0, 1, 2, 6, 14] (by (try dsimp only); exact ⟨dn_snoc hdn hpe, seen_nodup hnd n15, by rw [cnt_snoc, if_neg (by simp [cnB, *]), hn]; rfl, hn6⟩) (leftK_less hpe n15) rfl cov

end Go.Proofs.YtmeckbjinmgbbaaGreat
/- Strikes: the ledger of a journal. -/
namespace Go.Proofs.YtmeckbjinmgbbaaGreat
open Go.X
def opS (ll : List (List Int)) : LS := ll.foldl tk ⟨[], 0⟩
theorem opS_snoc {ll : List (List Int)} {l : List Int} : opS (ll ++ [l]) = tk (opS ll) l := by unfold opS; rw [List.foldl_append]; rfl
theorem opS_ok' : ∀ {ll : List (List Int)} {S : LS}, LOK S → (∀ l ∈ ll, bytes l) → LOK (ll.foldl tk S)
  | [], S, h, _ => h
  | l :: ll, S, h, hb => opS_ok' (ll := ll) (tk_ok h (hb l List.mem_cons_self)) fun x hx => hb x (List.mem_cons_of_mem _ hx)
theorem opS_ok {ll : List (List Int)} (h : ∀ l ∈ ll, bytes l) : LOK (opS ll) := opS_ok' .nil h
theorem GR.lbytes {g : GR} (hg : g.OK) : ∀ l ∈ g.ll, bytes l := fun l hl => by
  obtain ⟨r, hr, rfl⟩ := List.mem_map.1 hl
  exact (hg.2 r hr).2.2
theorem take_bytes {ll : List (List Int)} (h : ∀ l ∈ ll, bytes l) {i : Nat} : ∀ l ∈ ll.take i, bytes l := fun l hl => h l (List.mem_of_mem_take hl)
def SoB (b12 mb b4 j : Nat) (S : LS) : List (Nat × Blk) := (b12, .cells [(1, [.pointer (some ⟨j, 0, none⟩)]), (1, [.map (some mb)])] 110) :: (mb, .obj (mapO .i64 (S.m.map (gE stkV)) S.ck)) :: [(b4, .cells [(1, [.pointer (some ⟨b12, 0, none⟩)])] 30)]
def SoG (ll : List (List Int)) (b12 mb b4 j : Nat) (i : Nat) (Lx : List (Nat × Blk)) : Prop := Lx = SoB b12 mb b4 j (opS (ll.take i))
theorem rowSr {c : Cx} {L : List (Nat × Blk)} {r : RowB} {T : TypeId} (h : r.blk T ∈ L := by repeat (first | exact List.Mem.head _ | apply List.Mem.tail)) : Sr c L 1 (some ⟨r.b, 0, none⟩) r.n (iv .u8 r.l) := fun w hp => HP.sown hp h iv_one

theorem sopen23_calls (K : DK) (D : DS) (j : Nat) (g : GR) (hg : g.OK) (hgn : g.rs.length ≤ 64) (hgl : ∀ r ∈ g.rs, r.n ≤ 59) (w : World) (hp0 : HP w w (((j, .cells [(1, [.pointer (some ⟨K.d, 0, none⟩)]), (1, [.int .i64 (g.rs.length : Nat)]), (1, [.int .i64 (D.n : Nat)]), (1, [.slice (gA g.o) g.rs.length (gC g.o)])] 146) :: gRL 5 35 g : List (Nat × Blk)).map (·.1)) ((j, .cells [(1, [.pointer (some ⟨K.d, 0, none⟩)]), (1, [.int .i64 (g.rs.length : Nat)]), (1, [.int .i64 (D.n : Nat)]), (1, [.slice (gA g.o) g.rs.length (gC g.o)])] 146) :: gRL 5 35 g : List (Nat × Blk))) :
    Calls Tryz.prog 29 [.pointer (some ⟨j, 0, none⟩)].toArray w fun e w' => ∃ r : Nat × Nat, True ∧ e = .returned (.tuple #[.pointer (some ⟨r.1, 0, none⟩), .int .i64 0]) ∧ HP w w' (((j, .cells [(1, [.pointer (some ⟨K.d, 0, none⟩)]), (1, [.int .i64 (g.rs.length : Nat)]), (1, [.int .i64 (D.n : Nat)]), (1, [.slice (gA g.o) g.rs.length (gC g.o)])] 146) :: gRL 5 35 g : List (Nat × Blk)).map (·.1)) ((j, .cells [(1, [.pointer (some ⟨K.d, 0, none⟩)]), (1, [.int .i64 (g.rs.length : Nat)]), (1, [.int .i64 (D.n : Nat)]), (1, [.slice (gA g.o) g.rs.length (gC g.o)])] 146) :: (r.1, .cells [(1, [.pointer (some ⟨j, 0, none⟩)]), (1, [.map (some r.2)])] 110) :: (r.2, .obj (mapO .i64 ((opS g.ll).m.map (gE stkV)) (opS g.ll).ck)) :: gRL 5 35 g) := by
 refine calls_of_WM Tryz.func29 rfl Tryz.ntmps29 rfl rfl hp0 ?_
 refine sr ?_
 refine oas ?_
 refine oas ?_
 refine nq ?_
 refine W.seq ?_
 refine sr ?_
 refine omv ?_
 refine ov (V_eqlP (by kernel_rfl) rfl rfl) ?_
 refine nq ?_
 refine W.cond_false rfl rfl ?_
 refine W.skip ?_
 refine WQ.then ?_
 refine sr ?_
 refine omv ?_
 refine omk (fun b10 => ?_)
 refine ov (V_build (by kernel_rfl) (zi (zs := [(1, [.pointer none]), (1, [.map none])])) (.one (k := 0) rfl rfl (by kernel_rfl) rfl (.one (k := 1) rfl rfl (by kernel_rfl) rfl (.nil _)))) ?_
 refine obxa (fun b12 => ?_)
 refine oal [(1, [.pointer none])] (fun b4 => ?_)
 refine ost ?_
 refine nq ?_
 refine W.ofWI ?_
 refine WI.seq ?_
 refine WI.seq ?_
 refine ireg ?_
 refine omv ?_
 refine cg rfl (fun w hp => all22_calls _ w) (fun b14 h14 => ?_)
 refine inl ?_
 refine WIQ.then ?_
 refine WI.block ?_
 refine WI.range (R := fun pe L' => pe = none ∧ ∃ Lx', L' = ((b14, .cells [(1, [.pointer (some ⟨j, 0, none⟩)])] 78) :: (j, .cells [(1, [.pointer (some ⟨K.d, 0, none⟩)]), (1, [.int .i64 (g.rs.length : Nat)]), (1, [.int .i64 (D.n : Nat)]), (1, [.slice (gA g.o) g.rs.length (gC g.o)])] 146) :: (Lx' ++ gRL 5 35 g)) ∧ SoG g.ll b12 b10 b4 j g.rs.length Lx') rfl (by kernel_rfl) ?_ ?_ ?_
 · intro fn l D0 tm hsl w1 hp1
   refine alls22_calls w _ K D b14 j g hg hgn hgl l D0 fn tm _ _ _ rfl (SoG g.ll b12 b10 b4 j) ?_ (SoB b12 b10 b4 j (opS [])) rfl w1 (by unfold SoB; exact hp1.cov cov)
   rintro i Lx r hi rfl hr
   have hr59 : r.n ≤ 59 := by
     have h1 : g.ll.getD i [] ∈ g.ll := getD_mem (by rw [GR.ll_len]; exact hi)
     obtain ⟨q, hq, he⟩ := List.mem_map.1 h1
     have h0 := hgl q hq
     have h2 := (hg.2 q hq).1
     have h3 := hr.n
     rw [hr.e, ← he] at h3; omega
   unfold SoB
   simp only [List.cons_append]
   refine Rd.n (rd2 hsl rfl rfl ?_)
   refine WI.cov ((l, lrec .ready none fn tm _ _ _ D0) :: (D0, dref (some [])) :: r.blk 5 :: (b12, .cells [(1, [.pointer (some ⟨j, 0, none⟩)]), (1, [.map (some b10)])] 110) :: (b10, .obj (mapO .i64 ((opS (g.ll.take i)).m.map (gE stkV)) (opS (g.ll.take i)).ck)) :: (b4, .cells [(1, [.pointer (some ⟨b12, 0, none⟩)])] 30) :: (b14, .cells [(1, [.pointer (some ⟨j, 0, none⟩)])] 78) :: (j, .cells [(1, [.pointer (some ⟨K.d, 0, none⟩)]), (1, [.int .i64 (g.rs.length : Nat)]), (1, [.int .i64 (D.n : Nat)]), (1, [.slice (gA g.o) g.rs.length (gC g.o)])] 146) :: gRL 5 35 g) ?_
   refine ireg ?_
   refine oas ?_
   refine inl ?_
   refine begins ?_
   refine WI.block ?_
   refine ireg ?_
   refine ov vld ?_
   refine omv ?_
   refine cms rfl (fun w hp => take23_calls b12 b10 j (opS (g.ll.take i)) (opS_ok (take_bytes (GR.lbytes hg))) (some ⟨r.b, 0, none⟩) r.n r.cap r.l hr.by_ hr.cap hr.n.symm (by omega) w (HP.here hp cov) (fun w1 M h1 => Sr.past hp h1 (hs := rowSr))) ?_
   refine inl ?_
   refine WIQ.block_normal ?_
   rw [← opS_snoc, show r.l = g.ll.getD i [] from hr.e, snoc_take rfl (by rw [GR.ll_len]; exact hi)]
   refine WIQ.cov ((l, lrec .busy none fn tm _ _ _ D0) :: (D0, dref (some [])) :: (b14, .cells [(1, [.pointer (some ⟨j, 0, none⟩)])] 78) :: (j, .cells [(1, [.pointer (some ⟨K.d, 0, none⟩)]), (1, [.int .i64 (g.rs.length : Nat)]), (1, [.int .i64 (D.n : Nat)]), (1, [.slice (gA g.o) g.rs.length (gC g.o)])] 146) :: (SoB b12 b10 b4 j (opS (g.ll.take (i + 1))) ++ gRL 5 35 g)) ?_ (hc := by unfold SoB; simp only [List.cons_append]; exact cov)
   refine endsN ?_
   exact ⟨rfl, _, rfl, rfl⟩
 · rintro D1 _ ⟨_, _, rfl, rfl⟩
   unfold SoB
   simp only [List.cons_append]
   rw [show g.ll.take g.rs.length = g.ll from List.take_of_length_le (by rw [GR.ll_len]; omega)]
   refine WIQ.cov ((D1, dref (some [])) :: (b12, .cells [(1, [.pointer (some ⟨j, 0, none⟩)]), (1, [.map (some b10)])] 110) :: (b10, .obj (mapO .i64 ((opS g.ll).m.map (gE stkV)) (opS g.ll).ck)) :: (b4, .cells [(1, [.pointer (some ⟨b12, 0, none⟩)])] 30) :: (j, .cells [(1, [.pointer (some ⟨K.d, 0, none⟩)]), (1, [.int .i64 (g.rs.length : Nat)]), (1, [.int .i64 (D.n : Nat)]), (1, [.slice (gA g.o) g.rs.length (gC g.o)])] 146) :: gRL 5 35 g) ?_
   refine WIQ.block_normal ?_
   refine WIQ.then ?_
   refine WI.seq ?_
   refine ireg ?_
   refine ov vld ?_
   refine oas ?_
   refine oas ?_
   refine inl ?_
   refine WIQ.then ?_
   refine WI.ret ?_
   refine WIQ.leave2 Tryz.results29 (.tmp rfl) (.tmp rfl) ?_
   intro w' hp; exact ⟨(b12, b10), trivial, rfl, hp.cov cov⟩
 · rintro D1 cd _ ⟨h, _⟩; cases h

end Go.Proofs.YtmeckbjinmgbbaaGreat
/- Strikes: on a disk that lives. -/
namespace Go.Proofs.YtmeckbjinmgbbaaGreat
open Go.X
theorem numH_high23 {x : Int} (h : 0 ≤ x ∧ x ≤ 1000000) : numH (highF x 4) = x := by
  rw [highF_succ, highF_succ, highF_succ, highF_succ, lowB_eq h.1 (by decide), lowB_eq h.1 (by decide), lowB_eq h.1 (by decide), lowB_eq h.1 (by decide)]
  simp only [IntKind.wrap_u8, numH, List.foldl_cons, highF, lowF, List.range_zero, List.map_nil, List.reverse_nil, List.foldl_nil]
  simp only [show (256 : Int) ^ 3 = 16777216 from rfl, show (256 : Int) ^ 2 = 65536 from rfl, show (256 : Int) ^ 1 = 256 from rfl, show (256 : Int) ^ 0 = 1 from rfl]
  omega
theorem rec_id {k a id now : Int} (h : 0 ≤ id ∧ id ≤ 1000000) : idF (recS k a id now) = id := by
  unfold idF recS
  rw [List.append_assoc, List.drop_append_of_le_length (by simp), show List.drop 2 [k, a] = [] from rfl, List.nil_append, List.take_append_of_le_length (by simp), List.take_of_length_le (by simp), List.take_of_length_le (by simp)]
  exact numH_high23 h
theorem rec_now {k a id now : Int} (h : 0 ≤ now ∧ now ≤ 1000000) : nowF (recS k a id now) = now := by
  unfold nowF recS
  rw [List.drop_append_of_le_length (by simp), List.drop_of_length_le (by simp), List.nil_append, List.take_of_length_le (by simp)]
  exact numH_high23 h
theorem rec_ok23 {k a id now : Int} (ha : a < 8) (hi : 0 ≤ id ∧ id ≤ 1000000) (hn : 0 ≤ now ∧ now ≤ 1000000) : tkOK (recS k a id now) = true := by
  unfold tkOK
  rw [rec_id hi, rec_now hn, recS_len, tmB_t hi, tmB_t hn, show (recS k a id now).getD 1 0 = a from rfl, decide_eq_true ha]; rfl
theorem tk_rec1 {S : LS} {a id now : Int} (ha : a < 8) (hi : 0 ≤ id ∧ id ≤ 1000000) (hn : 0 ≤ now ∧ now ≤ 1000000) (h : S.get id = none) : tk S (recS 1 a id now) = S.put id ⟨a, now, false⟩ := by
  have := tk_add (S := S) (rec_ok23 (k := 1) ha hi hn) (by rw [rec_id hi]; exact h) rfl
  rwa [rec_id hi, rec_now hn] at this
theorem tk_rec2 {S : LS} {a id now : Int} {s : Stk} (ha : a < 8) (hi : 0 ≤ id ∧ id ≤ 1000000) (hn : 0 ≤ now ∧ now ≤ 1000000) (h : S.get id = some s) : tk S (recS 2 a id now) = S.put id ⟨s.a, s.t, true⟩ := by
  have := tk_clr (S := S) (rec_ok23 (k := 2) ha hi hn) (by rw [rec_id hi]; exact h) rfl
  rwa [rec_id hi] at this
theorem kput_new {α : Type} {i : Int} {s : α} {ck : Nat} : ∀ {m : List (KEnt α)}, kget m i = none → kput m ck i s = m ++ [(i, s, ck)]
  | [], _ => rfl
  | e :: m, h => by
    unfold kget at h
    split at h
    · cases h
    · rename_i hn
      rw [kput_cons, if_neg hn, kput_new h]; rfl
theorem cnt_cons {e : KEnt Stk} {m : List (KEnt Stk)} {a now : Int} : cnt (e :: m) a now = (if cnB a now e.2.1 = true then 1 else 0) + cnt m a now := by
  unfold cnt
  by_cases h : cnB a now e.2.1 = true
  · simp [h]; omega
  · simp [h]
theorem put_len {S : LS} {i : Int} {s : Stk} : (S.put i s).m.length ≤ S.m.length + 1 := by
  show (kput S.m S.ck i s).length ≤ _
  rw [kput_len]; split <;> omega
/-- A ledger on a disk that lives. -/
structure LV (D : DS) (g : GR) (S : LS) (n : Nat) : Prop where
  ok : DOK D
  live : Live D
  dn : D.n = n
  gok : g.OK
  ls : LOK S
  sm : S.m.length ≤ 1000000
  len : g.rs.length ≤ n
theorem LV.gn {D : DS} {g : GR} {S : LS} {n : Nat} (h : LV D g S n) : g.rs.length ≤ D.n := by rw [h.dn]; exact h.len
theorem LV.ap {D : DS} {g : GR} {S : LS} {n : Nat} {l : List Int} (h : LV D g S n) (hl : l.length ≤ 59) (hm : g.rs.length < n) : apE D g.rs.length l = 0 := (h.live.ap hl (by rw [h.dn]; exact hm)).1
/-- A record more. -/
theorem LV.more {D : DS} {g r : GR} {S S' : LS} {n : Nat} {l : List Int} (h : LV D g S n) (hl : l.length = 10) (hb : bytes l) (hm : g.rs.length < n) (hr : r.OK ∧ r.ll = apL D g.ll l) (hs : LOK S') (hs2 : S'.m.length ≤ 1000000) : LV (apD D g.rs.length l) r S' n ∧ r.rs.length = g.rs.length + 1 ∧ r.ll = g.ll ++ [l] := by
  obtain ⟨e1, e2, e3⟩ := h.live.ap (m := g.rs.length) (b := l) (by omega) (by rw [h.dn]; exact hm)
  have e4 : r.ll = g.ll ++ [l] := by rw [hr.2]; unfold apL; rw [GR.ll_len, if_pos e1]
  have e5 : r.rs.length = g.rs.length + 1 := by rw [← GR.ll_len, e4, List.length_append, GR.ll_len]; rfl
  exact ⟨⟨apD_ok h.ok hb, e3, by rw [apD_n]; exact h.dn, hr.1, hs, hs2, by omega⟩, e5, e4⟩
/-- A strike added, or refused. -/
theorem LV.add {D : DS} {g r : GR} {S : LS} {n : Nat} {a id now : Int} (h : LV D g S n) (ha : 0 ≤ a ∧ a < 8) (hi : 0 ≤ id ∧ id ≤ 1000000) (hn : 0 ≤ now ∧ now ≤ 1000000) (h0 : S.get id = none) (hm : g.rs.length < n) (hs : S.m.length < 1000000) (hr : r.OK ∧ r.ll = goL D g.ll (adQ S a id now)) :
    goE D g.rs.length (adQ S a id now) = 0 ∧ goS D g.rs.length S (adQ S a id now) = S.put id ⟨a, now, false⟩ ∧ LV (goD D g.rs.length (adQ S a id now)) r (S.put id ⟨a, now, false⟩) n ∧ r.rs.length = g.rs.length + 1 := by
  have ho : adOK a id now = true := by unfold adOK; rw [tmB_t hi, tmB_t hn, acB23, decide_eq_true ha.1, decide_eq_true ha.2]; rfl
  rw [adQ_new ho h0] at hr ⊢
  have hb := recS_bytes (k := 1) (a := a) (id := id) (now := now) ⟨by omega, by omega⟩ ⟨by omega, by omega⟩
  have he := h.ap (l := recS 1 a id now) (by rw [recS_len]; omega) hm
  have hp := put_len (S := S) (i := id) (s := ⟨a, now, false⟩)
  have h1 := h.more (S' := S.put id ⟨a, now, false⟩) recS_len hb hm hr (h.ls.put hi ha hn) (by omega)
  exact ⟨he, by rw [goS_yes he, tk_rec1 ha.2 hi hn h0], h1.1, h1.2.1⟩
/-- A strike taken back. -/
theorem LV.clear {D : DS} {g r : GR} {S : LS} {n : Nat} {id now : Int} {s : Stk} (h : LV D g S n) (hn : 0 ≤ now ∧ now ≤ 1000000) (h0 : S.get id = some s) (hc : s.c = false) (hm : g.rs.length < n) (hs : S.m.length < 1000000) (hr : r.OK ∧ r.ll = goL D g.ll (clQ S id now)) :
    goE D g.rs.length (clQ S id now) = 0 ∧ goS D g.rs.length S (clQ S id now) = S.put id ⟨s.a, s.t, true⟩ ∧ LV (goD D g.rs.length (clQ S id now)) r (S.put id ⟨s.a, s.t, true⟩) n ∧ r.rs.length = g.rs.length + 1 := by
  obtain ⟨hi, ha, ht⟩ := h.ls.get h0
  rw [clQ_new (by rw [tmB_t hi, tmB_t hn]; rfl) h0 (by simp [hc])] at hr ⊢
  have hb := recS_bytes (k := 2) (a := s.a) (id := id) (now := now) ⟨by omega, by omega⟩ ⟨by omega, by omega⟩
  have he := h.ap (l := recS 2 s.a id now) (by rw [recS_len]; omega) hm
  have hp := put_len (S := S) (i := id) (s := ⟨s.a, s.t, true⟩)
  have h1 := h.more (S' := S.put id ⟨s.a, s.t, true⟩) recS_len hb hm hr (h.ls.put hi ha ht) (by omega)
  exact ⟨he, by rw [goS_yes he, tk_rec2 ha.2 hi hn h0], h1.1, h1.2.1⟩
theorem LV.new {n : Nat} {g : GR} (h1 : 1 ≤ n) (h2 : n ≤ 64) (hg : g.OK) (hl : g.ll = opL (newD n)) : LV (newD n) g (opS (opL (newD n))) n ∧ opS (opL (newD n)) = ⟨[], 0⟩ ∧ g.rs.length = 0 := by
  have e : opL (newD n) = [] := Full.new.all h2
  rw [e] at hl ⊢
  have e2 : g.rs.length = 0 := by rw [← GR.ll_len, hl]; rfl
  exact ⟨⟨newD_ok h1 h2, newD_live, rfl, hg, .nil, by simp [opS], by omega⟩, rfl, e2⟩

end Go.Proofs.YtmeckbjinmgbbaaGreat
/- Layer 23: a strike counts once. -/
namespace Go.Proofs.YtmeckbjinmgbbaaGreat
open Go.X
end Go.Proofs.YtmeckbjinmgbbaaGreat