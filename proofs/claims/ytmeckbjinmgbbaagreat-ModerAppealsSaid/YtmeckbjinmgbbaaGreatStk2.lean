/- Strikes: a record kept; strikes added, cleared, told. -/
import Derived.Test.YtmeckbjinmgbbaaGreatStk
set_option linter.unusedVariables false
set_option linter.unusedSimpArgs false

namespace Go.Proofs.YtmeckbjinmgbbaaGreat
open Go.X
def recS (k a id now : Int) : List Int := ([k, a] ++ highF id 4) ++ highF now 4
theorem recS_len {k a id now : Int} : (recS k a id now).length = 10 := by simp [recS]
theorem recS_bytes {k a id now : Int} (hk : 0 ≤ k ∧ k ≤ 255) (ha : 0 ≤ a ∧ a ≤ 255) : bytes (recS k a id now) := ((bytes_cons.2 ⟨hk, bytes_cons.2 ⟨ha, bytes_nil⟩⟩).app highF_bytes).app highF_bytes
/-- What is asked for: refused, or a record. -/
abbrev Ask := Int ⊕ List Int
def goE (D : DS) (m : Nat) : Ask → Int
  | .inl e => e
  | .inr l => apE D m l
def goD (D : DS) (m : Nat) : Ask → DS
  | .inl _ => D
  | .inr l => apD D m l
def goL (D : DS) (ll : List (List Int)) : Ask → List (List Int)
  | .inl _ => ll
  | .inr l => apL D ll l
def goS (D : DS) (m : Nat) (S : LS) : Ask → LS
  | .inl _ => S
  | .inr l => if apE D m l = 0 then tk S l else S
theorem goS_yes {D : DS} {m : Nat} {S : LS} {l : List Int} (h : apE D m l = 0) : goS D m S (.inr l) = tk S l := if_pos h
theorem goS_no {D : DS} {m : Nat} {S : LS} {l : List Int} (h : ¬ apE D m l = 0) : goS D m S (.inr l) = S := if_neg h
def acB23 (n : Int) : Bool := decide (0 ≤ n) && decide (n < 8)
theorem acB23_of {n : Int} (h : acB23 n = true) : 0 ≤ n ∧ n < 8 := by simpa only [acB23, Bool.and_eq_true, decide_eq_true_eq] using h
def adOK (a id now : Int) : Bool := acB23 a && (tmB id && tmB now)
def adQ (S : LS) (a id now : Int) : Ask := if adOK a id now = true then (if (S.get id).isSome = true then .inl 9 else .inr (recS 1 a id now)) else .inl 1
theorem adOK_of {a id now : Int} (h : adOK a id now = true) : (0 ≤ a ∧ a < 8) ∧ tmB id = true ∧ tmB now = true := by
  simp only [adOK, Bool.and_eq_true] at h; exact ⟨acB23_of h.1, h.2⟩
theorem adQ_bad {S : LS} {a id now : Int} (h : ¬ adOK a id now = true) : adQ S a id now = .inl 1 := if_neg h
theorem adQ_old {S : LS} {a id now : Int} {s : Stk} (h : adOK a id now = true) (h2 : S.get id = some s) : adQ S a id now = .inl 9 := by unfold adQ; rw [if_pos h, h2]; rfl
theorem adQ_new {S : LS} {a id now : Int} (h : adOK a id now = true) (h2 : S.get id = none) : adQ S a id now = .inr (recS 1 a id now) := by unfold adQ; rw [if_pos h, h2]; rfl
def clQ (S : LS) (id now : Int) : Ask := if (tmB id && tmB now) = true then
    match S.get id with
    | none => .inl 7
    | some s => if s.c = true then .inl 5 else .inr (recS 2 s.a id now)
  else .inl 1
theorem clQ_bad {S : LS} {id now : Int} (h : ¬ (tmB id && tmB now) = true) : clQ S id now = .inl 1 := if_neg h
theorem clQ_no {S : LS} {id now : Int} (h : (tmB id && tmB now) = true) (h2 : S.get id = none) : clQ S id now = .inl 7 := by unfold clQ; rw [if_pos h, h2]
theorem clQ_old {S : LS} {id now : Int} {s : Stk} (h : (tmB id && tmB now) = true) (h2 : S.get id = some s) (h3 : s.c = true) : clQ S id now = .inl 5 := by unfold clQ; rw [if_pos h, h2]; exact if_pos h3
theorem clQ_new {S : LS} {id now : Int} {s : Stk} (h : (tmB id && tmB now) = true) (h2 : S.get id = some s) (h3 : ¬ s.c = true) : clQ S id now = .inr (recS 2 s.a id now) := by unfold clQ; rw [if_pos h, h2]; exact if_neg h3

theorem keep23_calls (K : DK) (D : DS) (hok : DOK D) (j : Nat) (g : GR) (hg : g.OK) (hgn : g.rs.length ≤ D.n) (b mb : Nat) (S : LS) (hls : LOK S) (kd a id now : Int) (hkd : 0 ≤ kd ∧ kd ≤ 255) (ha : 0 ≤ a ∧ a < 8) (hid : 0 ≤ id ∧ id ≤ 1000000) (hnow : 0 ≤ now ∧ now ≤ 1000000) (w : World) (hp0 : HP w w (((K.d, .cells [(1, [.slice (some ⟨K.s, 0, none⟩) D.n D.n]), (1, [.map (some K.m)]), (1, [.int .i64 D.fuse]), (1, [.bool D.dead])] 74) :: (K.s, .cells [(D.n * 64, iv .u8 D.sure.flatten)] 115) :: (K.m, .obj (mapO .i64 (D.m.map sE) D.ck)) :: (j, .cells [(1, [.pointer (some ⟨K.d, 0, none⟩)]), (1, [.int .i64 (g.rs.length : Nat)]), (1, [.int .i64 (D.n : Nat)]), (1, [.slice (gA g.o) g.rs.length (gC g.o)])] 146) :: (b, .cells [(1, [.pointer (some ⟨j, 0, none⟩)]), (1, [.map (some mb)])] 110) :: (mb, .obj (mapO .i64 (S.m.map (gE stkV)) S.ck)) :: gRL 5 35 g : List (Nat × Blk)).map (·.1)) ((K.d, .cells [(1, [.slice (some ⟨K.s, 0, none⟩) D.n D.n]), (1, [.map (some K.m)]), (1, [.int .i64 D.fuse]), (1, [.bool D.dead])] 74) :: (K.s, .cells [(D.n * 64, iv .u8 D.sure.flatten)] 115) :: (K.m, .obj (mapO .i64 (D.m.map sE) D.ck)) :: (j, .cells [(1, [.pointer (some ⟨K.d, 0, none⟩)]), (1, [.int .i64 (g.rs.length : Nat)]), (1, [.int .i64 (D.n : Nat)]), (1, [.slice (gA g.o) g.rs.length (gC g.o)])] 146) :: (b, .cells [(1, [.pointer (some ⟨j, 0, none⟩)]), (1, [.map (some mb)])] 110) :: (mb, .obj (mapO .i64 (S.m.map (gE stkV)) S.ck)) :: gRL 5 35 g : List (Nat × Blk))) :
    Calls Tryz.prog 83 [.pointer (some ⟨b, 0, none⟩), .int .u8 kd, .int .i64 a, .int .i64 id, .int .i64 now].toArray w fun e w' => ∃ r : GR, (r.OK ∧ r.ll = goL D g.ll (.inr (recS kd a id now))) ∧ e = .returned (.int .i64 (goE D g.rs.length (.inr (recS kd a id now)))) ∧ HP w w' (((K.d, .cells [(1, [.slice (some ⟨K.s, 0, none⟩) D.n D.n]), (1, [.map (some K.m)]), (1, [.int .i64 D.fuse]), (1, [.bool D.dead])] 74) :: (K.s, .cells [(D.n * 64, iv .u8 D.sure.flatten)] 115) :: (K.m, .obj (mapO .i64 (D.m.map sE) D.ck)) :: (j, .cells [(1, [.pointer (some ⟨K.d, 0, none⟩)]), (1, [.int .i64 (g.rs.length : Nat)]), (1, [.int .i64 (D.n : Nat)]), (1, [.slice (gA g.o) g.rs.length (gC g.o)])] 146) :: (b, .cells [(1, [.pointer (some ⟨j, 0, none⟩)]), (1, [.map (some mb)])] 110) :: (mb, .obj (mapO .i64 (S.m.map (gE stkV)) S.ck)) :: gRL 5 35 g : List (Nat × Blk)).map (·.1)) ((K.d, .cells [(1, [.slice (some ⟨K.s, 0, none⟩) (goD D g.rs.length (.inr (recS kd a id now))).n (goD D g.rs.length (.inr (recS kd a id now))).n]), (1, [.map (some K.m)]), (1, [.int .i64 (goD D g.rs.length (.inr (recS kd a id now))).fuse]), (1, [.bool (goD D g.rs.length (.inr (recS kd a id now))).dead])] 74) :: (K.s, .cells [((goD D g.rs.length (.inr (recS kd a id now))).n * 64, iv .u8 (goD D g.rs.length (.inr (recS kd a id now))).sure.flatten)] 115) :: (K.m, .obj (mapO .i64 ((goD D g.rs.length (.inr (recS kd a id now))).m.map sE) (goD D g.rs.length (.inr (recS kd a id now))).ck)) :: (j, .cells [(1, [.pointer (some ⟨K.d, 0, none⟩)]), (1, [.int .i64 (r.rs.length : Nat)]), (1, [.int .i64 ((goD D g.rs.length (.inr (recS kd a id now))).n : Nat)]), (1, [.slice (gA r.o) r.rs.length (gC r.o)])] 146) :: (b, .cells [(1, [.pointer (some ⟨j, 0, none⟩)]), (1, [.map (some mb)])] 110) :: (mb, .obj (mapO .i64 ((goS D g.rs.length S (.inr (recS kd a id now))).m.map (gE stkV)) (goS D g.rs.length S (.inr (recS kd a id now))).ck)) :: gRL 5 35 r : List (Nat × Blk)) := by
 have hn1 := hok.n1
 have hn64 := hok.n64
 have hrb := recS_bytes (k := kd) (a := a) (id := id) (now := now) hkd (by omega)
 refine calls_of_W Tryz.func83 rfl Tryz.ntmps83 rfl rfl hp0 ?_
 refine sr ?_
 refine oas ?_
 refine nx ?_
 refine omv ?_
 refine omv ?_
 first | refine ov (vcvN .u8) ?_ | refine ov (vcv .u8) ?_
 refine obsI (k := .u8) 5 1 [_, _] (fun b16 => ?_)
 refine omv ?_
 first | refine ov (vcvN .u64) ?_ | refine ov (vcv .u64) ?_
 refine cg rfl (fun w hp => high_calls _ 4 w sc) (fun b19 h19 => ?_)
 refine oap 5 1 (fun b20 c20 r20 h20 => ?_)
 refine oas ?_
 refine nx ?_
 refine omv ?_
 refine omv ?_
 first | refine ov (vcvN .u64) ?_ | refine ov (vcv .u64) ?_
 refine cg rfl (fun w hp => high_calls _ 4 w sc) (fun b24 h24 => ?_)
 refine oap 5 1 (fun b25 c25 r25 h25 => ?_)
 refine oas ?_
 refine nx ?_
 refine omv ?_
 refine ov vnil ?_
 refine ov (vfa0 0 1) ?_
 refine ov vld ?_
 refine omv ?_
 refine cgP _ rfl (fun w hp => append22_calls K D hok j g hg hgn (some ⟨b25, 0, none⟩) 10 c25 (recS kd a id now) hrb (by omega) recS_len.symm w (HP.here hp cov) (fun w1 M h1 => Sr.pastP hp h1 (hs := by exact Sr.own at_ iv_one))) (fun r31 h31 => ?_)
 simp only [List.cons_append, List.nil_append, List.append_nil, List.append_assoc]
 refine WL.back (gRL 5 35 r31) ?_
 simp only [List.cons_append, List.nil_append, List.append_nil, List.append_assoc]
 refine oas ?_
 refine nq ?_
 refine W.seq ?_
 refine sr ?_
 refine omv ?_
 refine ov (v2 V_eql) ?_
 refine nq ?_
 refine W.cond_dec rfl (fun g1 => ?_) (fun g1 => ?_)
 · refine W.region ?_
   refine omv ?_
   refine omv ?_
   refine cms rfl (fun w hp => take23_calls b mb j S hls (some ⟨b25, 0, none⟩) 10 c25 (recS kd a id now) hrb (by omega) recS_len.symm (by omega) w (HP.here hp cov) (fun w1 M h1 => Sr.past hp h1 (hs := by exact Sr.own at_ iv_one))) ?_
   refine nx ?_
   refine omv ?_
   refine oas ?_
   refine nq ?_
   refine W.ret ?_
   refine WQ.ret1 Tryz.results83 (.tmp rfl) ?_
   intro w' hp; refine ⟨r31, h31, rfl, ?_⟩; rw [goS_yes (by simpa using g1)]; exact hp.cov cov
 · refine W.skip ?_
   refine WQ.then ?_
   refine sr ?_
   refine omv ?_
   refine oas ?_
   refine nq ?_
   refine W.ret ?_
   refine WQ.ret1 Tryz.results83 (.tmp rfl) ?_
   intro w' hp; refine ⟨r31, h31, rfl, ?_⟩; rw [goS_no (by simpa using g1)]; exact hp.cov cov

theorem add23_calls (K : DK) (D : DS) (hok : DOK D) (j : Nat) (g : GR) (hg : g.OK) (hgn : g.rs.length ≤ D.n) (b mb : Nat) (S : LS) (hls : LOK S) (a id now : Int) (w : World) (hp0 : HP w w (((K.d, .cells [(1, [.slice (some ⟨K.s, 0, none⟩) D.n D.n]), (1, [.map (some K.m)]), (1, [.int .i64 D.fuse]), (1, [.bool D.dead])] 74) :: (K.s, .cells [(D.n * 64, iv .u8 D.sure.flatten)] 115) :: (K.m, .obj (mapO .i64 (D.m.map sE) D.ck)) :: (j, .cells [(1, [.pointer (some ⟨K.d, 0, none⟩)]), (1, [.int .i64 (g.rs.length : Nat)]), (1, [.int .i64 (D.n : Nat)]), (1, [.slice (gA g.o) g.rs.length (gC g.o)])] 146) :: (b, .cells [(1, [.pointer (some ⟨j, 0, none⟩)]), (1, [.map (some mb)])] 110) :: (mb, .obj (mapO .i64 (S.m.map (gE stkV)) S.ck)) :: gRL 5 35 g : List (Nat × Blk)).map (·.1)) ((K.d, .cells [(1, [.slice (some ⟨K.s, 0, none⟩) D.n D.n]), (1, [.map (some K.m)]), (1, [.int .i64 D.fuse]), (1, [.bool D.dead])] 74) :: (K.s, .cells [(D.n * 64, iv .u8 D.sure.flatten)] 115) :: (K.m, .obj (mapO .i64 (D.m.map sE) D.ck)) :: (j, .cells [(1, [.pointer (some ⟨K.d, 0, none⟩)]), (1, [.int .i64 (g.rs.length : Nat)]), (1, [.int .i64 (D.n : Nat)]), (1, [.slice (gA g.o) g.rs.length (gC g.o)])] 146) :: (b, .cells [(1, [.pointer (some ⟨j, 0, none⟩)]), (1, [.map (some mb)])] 110) :: (mb, .obj (mapO .i64 (S.m.map (gE stkV)) S.ck)) :: gRL 5 35 g : List (Nat × Blk))) :
    Calls Tryz.prog 189 [.pointer (some ⟨b, 0, none⟩), .int .i64 a, .int .i64 id, .int .i64 now].toArray w fun e w' => ∃ r : GR, (r.OK ∧ r.ll = goL D g.ll (adQ S a id now)) ∧ e = .returned (.int .i64 (goE D g.rs.length (adQ S a id now))) ∧ HP w w' (((K.d, .cells [(1, [.slice (some ⟨K.s, 0, none⟩) D.n D.n]), (1, [.map (some K.m)]), (1, [.int .i64 D.fuse]), (1, [.bool D.dead])] 74) :: (K.s, .cells [(D.n * 64, iv .u8 D.sure.flatten)] 115) :: (K.m, .obj (mapO .i64 (D.m.map sE) D.ck)) :: (j, .cells [(1, [.pointer (some ⟨K.d, 0, none⟩)]), (1, [.int .i64 (g.rs.length : Nat)]), (1, [.int .i64 (D.n : Nat)]), (1, [.slice (gA g.o) g.rs.length (gC g.o)])] 146) :: (b, .cells [(1, [.pointer (some ⟨j, 0, none⟩)]), (1, [.map (some mb)])] 110) :: (mb, .obj (mapO .i64 (S.m.map (gE stkV)) S.ck)) :: gRL 5 35 g : List (Nat × Blk)).map (·.1)) ((K.d, .cells [(1, [.slice (some ⟨K.s, 0, none⟩) (goD D g.rs.length (adQ S a id now)).n (goD D g.rs.length (adQ S a id now)).n]), (1, [.map (some K.m)]), (1, [.int .i64 (goD D g.rs.length (adQ S a id now)).fuse]), (1, [.bool (goD D g.rs.length (adQ S a id now)).dead])] 74) :: (K.s, .cells [((goD D g.rs.length (adQ S a id now)).n * 64, iv .u8 (goD D g.rs.length (adQ S a id now)).sure.flatten)] 115) :: (K.m, .obj (mapO .i64 ((goD D g.rs.length (adQ S a id now)).m.map sE) (goD D g.rs.length (adQ S a id now)).ck)) :: (j, .cells [(1, [.pointer (some ⟨K.d, 0, none⟩)]), (1, [.int .i64 (r.rs.length : Nat)]), (1, [.int .i64 ((goD D g.rs.length (adQ S a id now)).n : Nat)]), (1, [.slice (gA r.o) r.rs.length (gC r.o)])] 146) :: (b, .cells [(1, [.pointer (some ⟨j, 0, none⟩)]), (1, [.map (some mb)])] 110) :: (mb, .obj (mapO .i64 ((goS D g.rs.length S (adQ S a id now)).m.map (gE stkV)) (goS D g.rs.length S (adQ S a id now)).ck)) :: gRL 5 35 r : List (Nat × Blk)) := by
 have hn1 := hok.n1
 have hn64 := hok.n64
 refine calls_of_W Tryz.func189 rfl Tryz.ntmps189 rfl rfl hp0 ?_
 refine sr ?_
 refine oas ?_
 refine nq ?_
 refine W.seq ?_
 refine sr ?_
 refine omv ?_
 refine ov (v2 V_lss) ?_
 refine omv ?_
 refine WL.splitD rfl (fun g1 => ?_) (fun g1 => ?_)
 · refine on rfl (decide_eq_true g1) ?_
   refine on rfl (decide_eq_true g1) ?_
   refine ov (V_pick_td rfl g1 rfl) ?_
   refine omv ?_
   refine on rfl rfl ?_
   refine on rfl rfl ?_
   refine on rfl rfl ?_
   refine ov (V_pick_t rfl rfl rfl) ?_
   refine omv ?_
   refine on rfl rfl ?_
   refine on rfl rfl ?_
   refine on rfl rfl ?_
   refine ov (V_pick_t rfl rfl rfl) ?_
   refine nq ?_
   refine W.cond_true rfl rfl ?_
   refine sr ?_
   refine oas ?_
   refine nq ?_
   refine W.ret ?_
   refine WQ.then_ret ?_
   refine WQ.ret1 Tryz.results189 (.tmp rfl) ?_
   intro w' hp; rw [adQ_bad (S := S) (by intro h; obtain ⟨h1, h2, h3⟩ := adOK_of h; first | omega | (simp_all; done))]; exact ⟨g, ⟨hg, rfl⟩, rfl, hp.cov cov⟩
 · refine oy rfl (decide_eq_false g1) ?_
   refine omv ?_
   refine oy rfl (decide_eq_false g1) ?_
   refine ov (v2 V_geq) ?_
   refine ov (V_pick_fd rfl g1 rfl) ?_
   refine omv ?_
   refine WL.splitD rfl (fun g2 => ?_) (fun g2 => ?_)
   · refine on rfl (decide_eq_true g2) ?_
     refine on rfl (decide_eq_true g2) ?_
     refine on rfl (decide_eq_true g2) ?_
     refine ov (V_pick_td rfl g2 rfl) ?_
     refine omv ?_
     refine on rfl rfl ?_
     refine on rfl rfl ?_
     refine on rfl rfl ?_
     refine ov (V_pick_t rfl rfl rfl) ?_
     refine nq ?_
     refine W.cond_true rfl rfl ?_
     refine sr ?_
     refine oas ?_
     refine nq ?_
     refine W.ret ?_
     refine WQ.then_ret ?_
     refine WQ.ret1 Tryz.results189 (.tmp rfl) ?_
     intro w' hp; rw [adQ_bad (S := S) (by intro h; obtain ⟨h1, h2, h3⟩ := adOK_of h; first | omega | (simp_all; done))]; exact ⟨g, ⟨hg, rfl⟩, rfl, hp.cov cov⟩
   · refine oy rfl (decide_eq_false g2) ?_
     refine omv ?_
     refine oy rfl (decide_eq_false g2) ?_
     refine cp rfl (fun w hp => time23_calls _ w) ?_
     refine oy rfl (decide_eq_false g2) ?_
     refine ov vnot ?_
     refine ov (V_pick_fd rfl g2 rfl) ?_
     refine omv ?_
     refine WL.split rfl (fun g3 => ?_) (fun g3 => ?_)
     · refine on rfl g3 ?_
       refine on rfl g3 ?_
       refine on rfl g3 ?_
       refine ov (V_pick_t rfl g3 rfl) ?_
       refine nq ?_
       refine W.cond_true rfl rfl ?_
       refine sr ?_
       refine oas ?_
       refine nq ?_
       refine W.ret ?_
       refine WQ.then_ret ?_
       refine WQ.ret1 Tryz.results189 (.tmp rfl) ?_
       intro w' hp; rw [adQ_bad (S := S) (by intro h; obtain ⟨h1, h2, h3⟩ := adOK_of h; first | omega | (simp_all; done))]; exact ⟨g, ⟨hg, rfl⟩, rfl, hp.cov cov⟩
     · refine oy rfl g3 ?_
       refine omv ?_
       refine oy rfl g3 ?_
       refine cp rfl (fun w hp => time23_calls _ w) ?_
       refine oy rfl g3 ?_
       refine ov vnot ?_
       refine ov (V_pick_f rfl g3 rfl) ?_
       refine nq ?_
       refine W.cond rfl (fun g4 => ?_) (fun g4 => ?_)
       · refine W.seq ?_
         refine W.region ?_
         refine oas ?_
         refine nq ?_
         refine W.ret ?_
         refine WQ.then_ret ?_
         refine WQ.ret1 Tryz.results189 (.tmp rfl) ?_
         intro w' hp; rw [adQ_bad (S := S) (by intro h; obtain ⟨h1, h2, h3⟩ := adOK_of h; first | omega | (simp_all; done))]; exact ⟨g, ⟨hg, rfl⟩, rfl, hp.cov cov⟩
       · refine W.skip ?_
         refine WQ.then ?_
         refine W.seq ?_
         refine W.seq ?_
         have hti : tmB id = true := by simpa using g3
         have htn : tmB now = true := by simpa using g4
         have hgo : adOK a id now = true := by simp only [adOK, acB23, Bool.and_eq_true, decide_eq_true_eq]; exact ⟨⟨by omega, by omega⟩, hti, htn⟩
         by_cases hq : ∃ s, S.get id = some s
         · obtain ⟨s, hq⟩ := hq
           have hsb := hls.get hq
           refine W.region ?_
           refine omv ?_
           refine ov vnil ?_
           refine ov (vfa0 1 1) ?_
           refine ov vld ?_
           refine omv ?_
           refine ov (vlkS (lget_some hq)) ?_
           refine omv ?_
           refine ov vex ?_
           refine ov vex ?_
           refine oal [(1, [.int .i64 0]), (1, [.int .i64 0]), (1, [.bool false])] (fun b9 => ?_)
           refine osta 3 ?_
           refine oas ?_
           refine nx ?_
           refine omv ?_
           refine nq ?_
           refine W.cond_true rfl rfl ?_
           refine sr ?_
           refine oas ?_
           refine nq ?_
           refine W.ret ?_
           refine WQ.then_ret ?_
           refine WQ.ret1 Tryz.results189 (.tmp rfl) ?_
           intro w' hp; rw [adQ_old hgo hq]; exact ⟨g, ⟨hg, rfl⟩, rfl, hp.cov cov⟩
         · have hq : S.get id = none := by cases hx : S.get id with | none => rfl | some s => exact absurd ⟨s, hx⟩ hq
           refine W.region ?_
           refine omv ?_
           refine ov vnil ?_
           refine ov (vfa0 1 1) ?_
           refine ov vld ?_
           refine omv ?_
           refine ov (vlkN 112 (AG [(1, [.int .i64 0]), (1, [.int .i64 0]), (1, [.bool false])]) (lget_no hq)) ?_
           refine omv ?_
           refine ov vex ?_
           refine ov vex ?_
           refine oal [(1, [.int .i64 0]), (1, [.int .i64 0]), (1, [.bool false])] (fun b9 => ?_)
           refine osta 3 ?_
           refine oas ?_
           refine nx ?_
           refine omv ?_
           refine nq ?_
           refine W.cond_false rfl rfl ?_
           refine W.skip ?_
           refine WQ.then ?_
           refine sr ?_
           refine omv ?_
           refine omv ?_
           refine omv ?_
           refine omv ?_
           refine cgP _ rfl (fun w hp => keep23_calls K D hok j g hg hgn b mb S hls 1 a id now (by omega) (by omega) (tmB_of (by assumption)) (tmB_of (by assumption)) w (HP.here hp cov)) (fun r41 h41 => ?_)
           simp only [List.cons_append, List.nil_append, List.append_nil, List.append_assoc]
           refine WL.back (gRL 5 35 r41) ?_
           simp only [List.cons_append, List.nil_append, List.append_nil, List.append_assoc]
           refine oas ?_
           refine nq ?_
           refine W.ret ?_
           refine WQ.ret1 Tryz.results189 (.tmp rfl) ?_
           intro w' hp; rw [adQ_new hgo hq]; exact ⟨r41, h41, rfl, hp.cov cov⟩

theorem clear23_calls (K : DK) (D : DS) (hok : DOK D) (j : Nat) (g : GR) (hg : g.OK) (hgn : g.rs.length ≤ D.n) (b mb : Nat) (S : LS) (hls : LOK S) (id now : Int) (w : World) (hp0 : HP w w (((K.d, .cells [(1, [.slice (some ⟨K.s, 0, none⟩) D.n D.n]), (1, [.map (some K.m)]), (1, [.int .i64 D.fuse]), (1, [.bool D.dead])] 74) :: (K.s, .cells [(D.n * 64, iv .u8 D.sure.flatten)] 115) :: (K.m, .obj (mapO .i64 (D.m.map sE) D.ck)) :: (j, .cells [(1, [.pointer (some ⟨K.d, 0, none⟩)]), (1, [.int .i64 (g.rs.length : Nat)]), (1, [.int .i64 (D.n : Nat)]), (1, [.slice (gA g.o) g.rs.length (gC g.o)])] 146) :: (b, .cells [(1, [.pointer (some ⟨j, 0, none⟩)]), (1, [.map (some mb)])] 110) :: (mb, .obj (mapO .i64 (S.m.map (gE stkV)) S.ck)) :: gRL 5 35 g : List (Nat × Blk)).map (·.1)) ((K.d, .cells [(1, [.slice (some ⟨K.s, 0, none⟩) D.n D.n]), (1, [.map (some K.m)]), (1, [.int .i64 D.fuse]), (1, [.bool D.dead])] 74) :: (K.s, .cells [(D.n * 64, iv .u8 D.sure.flatten)] 115) :: (K.m, .obj (mapO .i64 (D.m.map sE) D.ck)) :: (j, .cells [(1, [.pointer (some ⟨K.d, 0, none⟩)]), (1, [.int .i64 (g.rs.length : Nat)]), (1, [.int .i64 (D.n : Nat)]), (1, [.slice (gA g.o) g.rs.length (gC g.o)])] 146) :: (b, .cells [(1, [.pointer (some ⟨j, 0, none⟩)]), (1, [.map (some mb)])] 110) :: (mb, .obj (mapO .i64 (S.m.map (gE stkV)) S.ck)) :: gRL 5 35 g : List (Nat × Blk))) :
    Calls Tryz.prog 39 [.pointer (some ⟨b, 0, none⟩), .int .i64 id, .int .i64 now].toArray w fun e w' => ∃ r : GR, (r.OK ∧ r.ll = goL D g.ll (clQ S id now)) ∧ e = .returned (.int .i64 (goE D g.rs.length (clQ S id now))) ∧ HP w w' (((K.d, .cells [(1, [.slice (some ⟨K.s, 0, none⟩) D.n D.n]), (1, [.map (some K.m)]), (1, [.int .i64 D.fuse]), (1, [.bool D.dead])] 74) :: (K.s, .cells [(D.n * 64, iv .u8 D.sure.flatten)] 115) :: (K.m, .obj (mapO .i64 (D.m.map sE) D.ck)) :: (j, .cells [(1, [.pointer (some ⟨K.d, 0, none⟩)]), (1, [.int .i64 (g.rs.length : Nat)]), (1, [.int .i64 (D.n : Nat)]), (1, [.slice (gA g.o) g.rs.length (gC g.o)])] 146) :: (b, .cells [(1, [.pointer (some ⟨j, 0, none⟩)]), (1, [.map (some mb)])] 110) :: (mb, .obj (mapO .i64 (S.m.map (gE stkV)) S.ck)) :: gRL 5 35 g : List (Nat × Blk)).map (·.1)) ((K.d, .cells [(1, [.slice (some ⟨K.s, 0, none⟩) (goD D g.rs.length (clQ S id now)).n (goD D g.rs.length (clQ S id now)).n]), (1, [.map (some K.m)]), (1, [.int .i64 (goD D g.rs.length (clQ S id now)).fuse]), (1, [.bool (goD D g.rs.length (clQ S id now)).dead])] 74) :: (K.s, .cells [((goD D g.rs.length (clQ S id now)).n * 64, iv .u8 (goD D g.rs.length (clQ S id now)).sure.flatten)] 115) :: (K.m, .obj (mapO .i64 ((goD D g.rs.length (clQ S id now)).m.map sE) (goD D g.rs.length (clQ S id now)).ck)) :: (j, .cells [(1, [.pointer (some ⟨K.d, 0, none⟩)]), (1, [.int .i64 (r.rs.length : Nat)]), (1, [.int .i64 ((goD D g.rs.length (clQ S id now)).n : Nat)]), (1, [.slice (gA r.o) r.rs.length (gC r.o)])] 146) :: (b, .cells [(1, [.pointer (some ⟨j, 0, none⟩)]), (1, [.map (some mb)])] 110) :: (mb, .obj (mapO .i64 ((goS D g.rs.length S (clQ S id now)).m.map (gE stkV)) (goS D g.rs.length S (clQ S id now)).ck)) :: gRL 5 35 r : List (Nat × Blk)) := by
 have hn1 := hok.n1
 have hn64 := hok.n64
 refine calls_of_W Tryz.func39 rfl Tryz.ntmps39 rfl rfl hp0 ?_
 refine sr ?_
 refine oas ?_
 refine nq ?_
 refine W.seq ?_
 by_cases hq : ∃ s, S.get id = some s
 · obtain ⟨s, hq⟩ := hq
   have hsb := hls.get hq
   refine W.region ?_
   refine omv ?_
   refine ov vnil ?_
   refine ov (vfa0 1 1) ?_
   refine ov vld ?_
   refine omv ?_
   refine ov (vlkS (lget_some hq)) ?_
   refine omv ?_
   refine ov vex ?_
   refine ov vex ?_
   refine oal [(1, [.int .i64 0]), (1, [.int .i64 0]), (1, [.bool false])] (fun b7 => ?_)
   refine osta 3 ?_
   refine oas ?_
   refine nq ?_
   refine W.seq ?_
   refine W.block ?_
   refine sr ?_
   refine omv ?_
   refine cp rfl (fun w hp => time23_calls _ w) ?_
   refine ov vnot ?_
   refine omv ?_
   refine WL.split rfl (fun g1 => ?_) (fun g1 => ?_)
   · refine on rfl g1 ?_
     refine on rfl g1 ?_
     refine on rfl g1 ?_
     refine ov (V_pick_t rfl g1 rfl) ?_
     refine oas ?_
     refine nq ?_
     refine W.cond_true rfl rfl ?_
     refine sr ?_
     refine oas ?_
     refine nq ?_
     refine W.ret ?_
     refine WQ.block_ret ?_
     refine WQ.then_ret ?_
     refine WQ.ret1 Tryz.results39 (.tmp rfl) ?_
     intro w' hp; rw [clQ_bad (S := S) (by simp_all)]; exact ⟨g, ⟨hg, rfl⟩, rfl, hp.cov cov⟩
   · refine oy rfl g1 ?_
     refine omv ?_
     refine oy rfl g1 ?_
     refine cp rfl (fun w hp => time23_calls _ w) ?_
     refine oy rfl g1 ?_
     refine ov vnot ?_
     refine ov (V_pick_f rfl g1 rfl) ?_
     refine oas ?_
     refine nq ?_
     refine W.cond rfl (fun g2 => ?_) (fun g2 => ?_)
     · refine W.seq ?_
       refine W.region ?_
       refine oas ?_
       refine nq ?_
       refine W.ret ?_
       refine WQ.block_ret ?_
       refine WQ.then_ret ?_
       refine WQ.ret1 Tryz.results39 (.tmp rfl) ?_
       intro w' hp; rw [clQ_bad (S := S) (by simp_all)]; exact ⟨g, ⟨hg, rfl⟩, rfl, hp.cov cov⟩
     · refine W.seq ?_
       have hti : tmB id = true := by simpa using g1
       have htn : tmB now = true := by simpa using g2
       have hgo : (tmB id && tmB now) = true := by rw [hti, htn]; rfl
       refine W.region ?_
       refine omv ?_
       refine ov vnot ?_
       refine oas ?_
       refine nq ?_
       refine W.cond_false rfl rfl ?_
       refine sr ?_
       refine ov (vfa0 2 1) ?_
       refine ov vld ?_
       refine oas ?_
       refine nq ?_
       refine W.cond rfl (fun g3 => ?_) (fun g3 => ?_)
       · refine W.seq ?_
         refine W.region ?_
         refine oas ?_
         refine nq ?_
         refine W.ret ?_
         refine WQ.block_ret ?_
         refine WQ.then_ret ?_
         refine WQ.ret1 Tryz.results39 (.tmp rfl) ?_
         intro w' hp; rw [clQ_old hgo hq (by assumption)]; exact ⟨g, ⟨hg, rfl⟩, rfl, hp.cov cov⟩
       · refine W.skip ?_
         refine WQ.block_normal ?_
         refine WQ.then ?_
         refine sr ?_
         refine omv ?_
         refine ov (vfa0 0 1) ?_
         refine ov vld ?_
         refine omv ?_
         refine omv ?_
         refine cgP _ rfl (fun w hp => keep23_calls K D hok j g hg hgn b mb S hls 2 s.a id now (by omega) (by omega) (tmB_of (by assumption)) (tmB_of (by assumption)) w (HP.here hp cov)) (fun r38 h38 => ?_)
         simp only [List.cons_append, List.nil_append, List.append_nil, List.append_assoc]
         refine WL.back (gRL 5 35 r38) ?_
         simp only [List.cons_append, List.nil_append, List.append_nil, List.append_assoc]
         refine oas ?_
         refine nq ?_
         refine W.ret ?_
         refine WQ.ret1 Tryz.results39 (.tmp rfl) ?_
         intro w' hp; rw [clQ_new hgo hq (by simp [*])]; exact ⟨r38, h38, rfl, hp.cov cov⟩
 · have hq : S.get id = none := by cases hx : S.get id with | none => rfl | some s => exact absurd ⟨s, hx⟩ hq
   refine W.region ?_
   refine omv ?_
   refine ov vnil ?_
   refine ov (vfa0 1 1) ?_
   refine ov vld ?_
   refine omv ?_
   refine ov (vlkN 112 (AG [(1, [.int .i64 0]), (1, [.int .i64 0]), (1, [.bool false])]) (lget_no hq)) ?_
   refine omv ?_
   refine ov vex ?_
   refine ov vex ?_
   refine oal [(1, [.int .i64 0]), (1, [.int .i64 0]), (1, [.bool false])] (fun b7 => ?_)
   refine osta 3 ?_
   refine oas ?_
   refine nq ?_
   refine W.seq ?_
   refine W.block ?_
   refine sr ?_
   refine omv ?_
   refine cp rfl (fun w hp => time23_calls _ w) ?_
   refine ov vnot ?_
   refine omv ?_
   refine WL.split rfl (fun g4 => ?_) (fun g4 => ?_)
   · refine on rfl g4 ?_
     refine on rfl g4 ?_
     refine on rfl g4 ?_
     refine ov (V_pick_t rfl g4 rfl) ?_
     refine oas ?_
     refine nq ?_
     refine W.cond_true rfl rfl ?_
     refine sr ?_
     refine oas ?_
     refine nq ?_
     refine W.ret ?_
     refine WQ.block_ret ?_
     refine WQ.then_ret ?_
     refine WQ.ret1 Tryz.results39 (.tmp rfl) ?_
     intro w' hp; rw [clQ_bad (S := S) (by simp_all)]; exact ⟨g, ⟨hg, rfl⟩, rfl, hp.cov cov⟩
   · refine oy rfl g4 ?_
     refine omv ?_
     refine oy rfl g4 ?_
     refine cp rfl (fun w hp => time23_calls _ w) ?_
     refine oy rfl g4 ?_
     refine ov vnot ?_
     refine ov (V_pick_f rfl g4 rfl) ?_
     refine oas ?_
     refine nq ?_
     refine W.cond rfl (fun g5 => ?_) (fun g5 => ?_)
     · refine W.seq ?_
       refine W.region ?_
       refine oas ?_
       refine nq ?_
       refine W.ret ?_
       refine WQ.block_ret ?_
       refine WQ.then_ret ?_
       refine WQ.ret1 Tryz.results39 (.tmp rfl) ?_
       intro w' hp; rw [clQ_bad (S := S) (by simp_all)]; exact ⟨g, ⟨hg, rfl⟩, rfl, hp.cov cov⟩
     · refine W.seq ?_
       have hti : tmB id = true := by simpa using g4
       have htn : tmB now = true := by simpa using g5
       have hgo : (tmB id && tmB now) = true := by rw [hti, htn]; rfl
       refine W.region ?_
       refine omv ?_
       refine ov vnot ?_
       refine oas ?_
       refine nq ?_
       refine W.cond_true rfl rfl ?_
       refine sr ?_
       refine oas ?_
       refine nq ?_
       refine W.ret ?_
       refine WQ.block_ret ?_
       refine WQ.then_ret ?_
       refine WQ.ret1 Tryz.results39 (.tmp rfl) ?_
       intro w' hp; rw [clQ_no hgo hq]; exact ⟨g, ⟨hg, rfl⟩, rfl, hp.cov cov⟩

end Go.Proofs.YtmeckbjinmgbbaaGreat