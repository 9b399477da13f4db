/- RelayBoth: its walk. -/
import Derived.Test.YtmeckbjinmgbbaaInv
set_option linter.unusedVariables false
set_option linter.unusedSimpArgs false

namespace Go.Proofs.Ytmeckbjinmgbbaa
open Go.X
structure J3 (p0 p1 p2 : Nat) (root : List Int) (x y z : PAcc) (m : List Ent) : Prop where
  okx : POK x
  oky : POK y
  okz : POK z
  px : x.p = p0
  py : y.p = p1
  pz : z.p = p2
  g : Good root m
  lx : x.link = lnk 0 ∧ x.susp = false
  ly : y.link = lnk 1 ∧ y.susp = false
  ny : y.ms.length ≤ 8 ∧ 0 ≤ y.many ∧ y.many ≤ 1000
  nz : z.ms.length ≤ 8 ∧ 0 ≤ z.many ∧ z.many ≤ 1000
/-- Tokens enough at each ten ticks. -/
def Tks (i : Nat) (a : PAcc) : Prop := 0 ≤ a.n ∧ 0 ≤ a.t ∧ a.t ≤ 10 * i ∧ (1 ≤ a.n ∨ a.t + 10 ≤ 10 * i)
theorem Tks.ok {i : Nat} {a : PAcc} (h : Tks i a) (hi : i ≤ 10) : takeE 5 10 a.t a.n (i * 10) = 0 := by
  obtain ⟨h1, h2, h3, h4⟩ := h
  exact (take_ok (by omega) (by omega) (by omega)).1
theorem Tks.next {i : Nat} {a b : PAcc} (h : Tks i a) (h1 : b.t = a.t) (h2 : b.n = a.n) : Tks (i + 1) b := by
  obtain ⟨q1, q2, q3, q4⟩ := h
  exact ⟨by omega, by omega, by omega, by omega⟩
theorem Tks.took {i : Nat} {a b : PAcc} (h : Tks i a) (hi : i ≤ 10) (h1 : b.t = takeT a.t (i * 10)) (h2 : b.n = takeN 5 10 a.t a.n (i * 10)) : Tks (i + 1) b := by
  obtain ⟨q1, q2, q3, q4⟩ := h
  obtain ⟨e1, e2, e3⟩ := take_ok (t := a.t) (n := a.n) (now := i * 10) (by omega) (by omega) (by omega)
  rw [e2] at h1; rw [e3] at h2
  exact ⟨by omega, by omega, by omega, by omega⟩
def cn3 (y z : PAcc) : List Int := [0, (y.ms.length : Int), (z.ms.length : Int)]
@[simp] theorem cn3_len {y z : PAcc} : (cn3 y z).length = 3 := rfl
/-- Sent, or no room. -/
theorem snt_two {root : List Int} {ticks : Int} {a c : PAcc} {e : EnvS} {l tag : List Int} {now : Int} {r : SR} (h : Snt root ticks a c e l tag now r) (h1 : tgL a.link e l = tag) (h2 : a.susp = false) (h3 : c.ms.length ≤ 8) (h4 : takeE 5 10 a.t a.n now = 0) :
    (r.k = 0 ∧ Went root ticks a c e l now r) ∨ (r.k = 8 ∧ Stays a c r ∧ 8 ≤ c.ms.length) := by
  by_cases h8 : c.ms.length < 8
  · have := h.went h1 h2 h8 h4; exact .inl ⟨this.k, this⟩
  · have := h.full' h1 h2 (by omega); exact .inr ⟨this.1, this.2, by omega⟩
structure B3 (p0 p1 p2 : Nat) (root : List Int) (i : Nat) (x y z : PAcc) (m : List Ent) : Prop where
  j : J3 p0 p1 p2 root x y z m
  tx : Tks i x
  ty : Tks i y
  x0 : x.ms.length = 0
  many : y.many ≤ i ∧ z.many ≤ i
theorem B3.xy {p0 p1 p2 : Nat} {root : List Int} {i : Nat} {x y z : PAcc} {m : List Ent} {ticks : Int} {e : EnvS} {l tag : List Int} {r : SR} (h : B3 p0 p1 p2 root i x y z m) (hi : i ≤ 10) (hs : Snt root ticks x y e l tag (i * 10) r) (h1 : tgL (lnk 0) e l = tag) :
    (r.k = 0 ∧ cn3 r.c z = (cn3 y z).set 1 (y.ms.length + 1) ∧ B3 p0 p1 p2 root (i + 1) r.a r.c z r.m) ∨ (r.k = 8 ∧ cn3 r.c z = cn3 y z ∧ B3 p0 p1 p2 root (i + 1) r.a r.c z r.m) := by
  obtain ⟨⟨q1, q2, q3, q4, q5, q6, q7, q8, q9, q10, q11⟩, tx, ty, x0, mm⟩ := h
  rcases snt_two hs (by rw [q8.1]; exact h1) q8.2 (by omega) (tx.ok hi) with ⟨k, w⟩ | ⟨k, w, w2⟩
  · have hl : r.c.ms.length ≤ 8 := hs.okc.1.ms.2
    exact .inl ⟨k, by simp [cn3, w.len], ⟨hs.oka, hs.okc, q3, hs.pa.trans q4, hs.pc.trans q5, q6, hs.g, ⟨w.link.trans q8.1, w.susp.trans q8.2⟩, ⟨w.clink.trans q9.1, w.csusp.trans q9.2⟩, ⟨hl, by rw [w.many]; omega, by rw [w.many]; omega⟩, q11⟩, tx.took hi w.t w.n, ty.next w.ct w.cn, by rw [w.ams]; exact x0, by rw [w.many]; omega, by omega⟩
  · exact .inr ⟨k, by simp [cn3, w.len], ⟨hs.oka, hs.okc, q3, hs.pa.trans q4, hs.pc.trans q5, q6, hs.g, ⟨w.link.trans q8.1, w.susp.trans q8.2⟩, ⟨w.clink.trans q9.1, w.csusp.trans q9.2⟩, ⟨by rw [w.len]; omega, by rw [w.many]; omega, by rw [w.many]; omega⟩, q11⟩, tx.next w.t w.n, ty.next w.ct w.cn, by rw [w.ams]; exact x0, by rw [w.many]; omega, by omega⟩
theorem B3.yz {p0 p1 p2 : Nat} {root : List Int} {i : Nat} {x y z : PAcc} {m : List Ent} {ticks : Int} {e : EnvS} {l tag : List Int} {r : SR} (h : B3 p0 p1 p2 root i x y z m) (hi : i ≤ 10) (hs : Snt root ticks y z e l tag (i * 10) r) (h1 : tgL (lnk 1) e l = tag) :
    (r.k = 0 ∧ cn3 r.a r.c = (cn3 y z).set 2 (z.ms.length + 1) ∧ B3 p0 p1 p2 root (i + 1) x r.a r.c r.m) ∨ (r.k = 8 ∧ cn3 r.a r.c = cn3 y z ∧ B3 p0 p1 p2 root (i + 1) x r.a r.c r.m) := by
  obtain ⟨⟨q1, q2, q3, q4, q5, q6, q7, q8, q9, q10, q11⟩, tx, ty, x0, mm⟩ := h
  rcases snt_two hs (by rw [q9.1]; exact h1) q9.2 (by omega) (ty.ok hi) with ⟨k, w⟩ | ⟨k, w, w2⟩
  · have hl : r.c.ms.length ≤ 8 := hs.okc.1.ms.2
    exact .inl ⟨k, by simp [cn3, w.len, w.ams], ⟨q1, hs.oka, hs.okc, q4, hs.pa.trans q5, hs.pc.trans q6, hs.g, q8, ⟨w.link.trans q9.1, w.susp.trans q9.2⟩, ⟨by rw [w.ams]; omega, by rw [w.amany]; omega, by rw [w.amany]; omega⟩, ⟨hl, by rw [w.many]; omega, by rw [w.many]; omega⟩⟩, tx.next rfl rfl, ty.took hi w.t w.n, x0, by rw [w.amany]; omega, by rw [w.many]; omega⟩
  · exact .inr ⟨k, by simp [cn3, w.len, w.ams], ⟨q1, hs.oka, hs.okc, q4, hs.pa.trans q5, hs.pc.trans q6, hs.g, q8, ⟨w.link.trans q9.1, w.susp.trans q9.2⟩, ⟨by rw [w.ams]; omega, by rw [w.amany]; omega, by rw [w.amany]; omega⟩, ⟨by rw [w.len]; omega, by rw [w.many]; omega, by rw [w.many]; omega⟩⟩, tx.next rfl rfl, ty.next w.t w.n, x0, by rw [w.amany]; omega, by rw [w.many]; omega⟩
theorem B3.nil {p0 p1 p2 : Nat} {root : List Int} {x y z : PAcc} (h1 : POK x ∧ x.abs = nwA 0) (h2 : POK y ∧ y.abs = nwA 1) (h3 : POK z ∧ z.abs = nwA 2) (e1 : x.p = p0) (e2 : y.p = p1) (e3 : z.p = p2) : B3 p0 p1 p2 root 0 x y z [] := by
  have f1 := PAcc.fld h1.2
  have f2 := PAcc.fld h2.2
  have f3 := PAcc.fld h3.2
  have n1 : x.n = 5 := f1.2.2.2.1
  have t1 : x.t = 0 := f1.2.2.1
  have n2 : y.n = 5 := f2.2.2.2.1
  have t2 : y.t = 0 := f2.2.2.1
  have m2 : y.many = 0 := f2.2.2.2.2.2.1
  have m3 : z.many = 0 := f3.2.2.2.2.2.1
  have l1 : x.ms.length = 0 := f1.2.2.2.2.1
  have l2 : y.ms.length = 0 := f2.2.2.2.2.1
  have l3 : z.ms.length = 0 := f3.2.2.2.2.1
  exact ⟨⟨h1.1, h2.1, h3.1, e1, e2, e3, Good.nil, ⟨f1.1, f1.2.1⟩, ⟨f2.1, f2.2.1⟩, by omega, by omega⟩, ⟨by omega, by omega, by omega, by omega⟩, ⟨by omega, by omega, by omega, by omega⟩, l1, by omega, by omega⟩
theorem cn30 {r : (Nat × Rel) × PAcc × PAcc × PAcc} (h : Bgn r) : [] ++ List.replicate (3 - 0) (0 : Int) = cn3 r.2.2.1 r.2.2.2 := by
  have f2 : r.2.2.1.ms.length = 0 := (PAcc.fld h.2.1.2).2.2.2.2.1
  have f3 : r.2.2.2.ms.length = 0 := (PAcc.fld h.2.2.2).2.2.2.2.1
  unfold cn3; rw [f2, f3]; rfl

set_option maxRecDepth 8000 in
set_option maxHeartbeats 2000000 in
theorem relayBoth_calls (l0 : List Int) (e0 : l0.length = 32) (hb0 : bytes l0) (A : Option Addr) (n cap : Nat) (l : List Bool) (w : World) (hs : SrW w 1 A n (bv l)) (hl : l.length = n) (hn2 : n ≤ 9223372036854775807) :
    Calls Try.prog 3 [AG [(32, iv .u8 l0)], .slice A n cap].toArray w fun e w' => e = .returned (.bool true) ∧ HP w w' [] [] := by
 refine calls_of_W Try.func3 rfl Try.ntmps3 rfl rfl (HP.refl w []) ?_
 refine sr ?_
 refine obxa (fun b2 => ?_)
 refine oas ?_
 refine nx ?_
 refine cp rfl (fun w hp => awake20_calls w) ?_
 refine oas ?_
 refine nx ?_
 refine ov (vlda 32) ?_
 refine cg rfl (fun w hp => begun20_calls l0 e0 w) (fun b19 h19 => ?_)
 refine oas ?_
 refine nq ?_
 refine W.seq ?_
 refine sr ?_
 refine omv ?_
 refine ov (V_eqlP (by kernel_rfl) rfl rfl) ?_
 refine omv ?_
 refine oy rfl rfl ?_
 refine omv ?_
 refine oy rfl rfl ?_
 refine ov vlenS ?_
 refine oy rfl rfl ?_
 refine ov (v2 V_gtr) ?_
 refine ov (V_pick_f rfl rfl rfl) ?_
 refine nq ?_
 refine W.cond_dec rfl (fun g1 => ?_) (fun g1 => ?_)
 · refine W.seq ?_
   refine W.region ?_
   refine omv ?_
   refine omv ?_
   refine oy rfl rfl ?_
   refine omv ?_
   refine oy rfl rfl ?_
   refine ov (V_neqP (by kernel_rfl) rfl rfl) ?_
   refine ov (V_pick_t rfl rfl rfl) ?_
   refine oas ?_
   refine nq ?_
   refine W.ret ?_
   refine WQ.then_ret ?_
   refine WQ.ret1 Try.results3 (.tmp rfl) ?_
   intro w' hp; exact ⟨by first | rfl | (simp; done) | (simp [*]; done) | simp_all, hp.forget⟩
 · refine W.skip ?_
   refine WQ.then ?_
   refine sr ?_
   refine ov (vbI 3 .i64 0 []) ?_
   refine oal [(3, List.replicate 3 (.int .i64 0))] (fun b7 => ?_)
   refine osta 3 ?_
   refine nq ?_
   refine W.seq ?_
   refine W.seq ?_
   rw [cn30 h19]
   refine W.region ?_
   refine oas ?_
   refine nq ?_
   refine W.block ?_
   -- LOOP 0
   refine W.pick (S' := [(8, _), (0, _), (1, _), (2, _), (4, _), (5, _), (6, _), (7, _), (26, _)]) [8, 0, 1, 2, 4, 5, 6, 7, 26] rfl ?_
   refine W.loopG (σ := Nat × PAcc × PAcc × PAcc × List Ent × Nat) (fun ⟨i, x, y, z, m, ck⟩ => i ≤ n ∧ B3 b19.2.1.p b19.2.2.1.p b19.2.2.2.p l0 i x y z m) (fun ⟨i, x, y, z, m, ck⟩ => [(8, .int .i64 (i : Nat))]) (fun ⟨i, x, y, z, m, ck⟩ => [(b7, .cells [(3, iv .i64 (cn3 y z))] 28)]) [(b19.1.1, _), (b2, _)] (fun ⟨i, x, y, z, m, ck⟩ => stpL b19.1.2 5 l0 m ck ++ (accP x ++ (accP y ++ accP z))) (fun ⟨i, x, y, z, m, ck⟩ => n - i) (0, b19.2.1, b19.2.2.1, b19.2.2.2, [], 0) rfl cov ⟨Nat.zero_le _, B3.nil h19.1 h19.2.1 h19.2.2 rfl rfl rfl⟩ ?_
   rintro ⟨i, x, y, z, m, ck⟩ ⟨hi, hB⟩; dsimp only at hi hB ⊢
   have hny := hB.j.ny
   have hnz := hB.j.nz
   refine W.seq ?_
   refine sr ?_
   refine omv ?_
   refine omv ?_
   refine ov vlenS ?_
   refine ov (v2 V_lss) ?_
   refine nq ?_
   refine W.cond_dec rfl (fun g2 => ?_) (fun g2 => ?_)
   · refine W.skip ?_
     refine WQ.then ?_
     refine W.seq ?_
     refine W.block ?_
     refine W.seq ?_
     obtain ⟨u, hu⟩ : ∃ u, (bv l)[i]? = some (Value.bool u) := ⟨_, bv_get (by omega)⟩
     refine W.region ?_
     refine omv ?_
     first | refine ov (vcvN .u8) ?_ | refine ov (vcv .u8) ?_
     refine obsI (k := .u8) 5 1 [_] (fun b41 => ?_)
     refine ov (V_build (by kernel_rfl) (zi (zs := [(1, [.int .i64 0]), (1, [.int .i64 0]), (32, List.replicate 32 (.int .u8 0)), (32, List.replicate 32 (.int .u8 0)), (1, [.int .i64 0]), (1, [.int .i64 0]), (1, [.slice none 0 0])])) (.one (k := 0) rfl rfl (by kernel_rfl) rfl (.one (k := 1) rfl rfl (by kernel_rfl) rfl (.one (k := 68) rfl rfl (by kernel_rfl) rfl (.nil _))))) ?_
     refine oal [(1, [.int .i64 0]), (1, [.int .i64 0]), (32, List.replicate 32 (.int .u8 0)), (32, List.replicate 32 (.int .u8 0)), (1, [.int .i64 0]), (1, [.int .i64 0]), (1, [.slice none 0 0])] (fun b9 => ?_)
     refine osta 69 ?_
     refine nq ?_
     refine W.seq ?_
     refine sr ?_
     refine omv ?_
     refine omv ?_
     obtain ⟨bbA, ooA, rfl⟩ := hs.hasN sc
     first | refine ov viS1 ?_ | refine ov viS1Z ?_
     refine ov (vldV _) ?_
     refine nq ?_
     refine W.cond rfl (fun g3 => ?_) (fun g3 => ?_)
     · refine W.seq ?_
       refine W.region ?_
       refine ov (vfa0 0 1) ?_
       refine ost ?_
       refine nq ?_
       refine W.region ?_
       refine ov (vfa0 1 1) ?_
       refine ost ?_
       refine nq ?_
       refine W.seq ?_
       apply W.j1
       · intro hJ
         refine dr (.q 0 (.q 1 (.q 3 (.l2 2 (.l2 4 (.q 5 (.q 6 (.q 7 (.l 8 (.l 9 (.q 10 (.done))))))) 8 (.l 4 (.q 5 (.q 6 (.q 7 (.l 9 (.q 10 (.done)))))))) 8 (.l 2 (.l 4 (.q 5 (.q 6 (.q 7 (.l 9 (.q 10 (.done)))))))))))) [(b9, _)] ?_
         refine dq rfl (vfa0 0 1) ?_
         refine dq rfl vld ?_
         refine dq rfl (vlda 69) ?_
         refine WD.l2 ?_ ?_
         · refine dcp rfl rfl (fun w hp => link20_calls _ w) ?_
           refine WD.l2 ?_ ?_
           · refine dcp rfl rfl (fun w hp => tag20_calls (lnk 1) lnk_len lnk_bytes (vE 1 2 (some ⟨b41, 0, none⟩)) (some ⟨b41, 0, none⟩) 1 1 [(i : Int)] (vE_ok (by omega)) (vE_he (by decide) (by decide)) w sw) ?_
             refine dq rfl (V_move rfl) ?_
             refine dq rfl vex ?_
             refine dq rfl vex ?_
             refine WD.l ?_
             refine dal rfl [(32, List.replicate 32 (.int .u8 0))] (fun b10 => ?_)
             refine WD.l ?_
             refine dsta rfl 32 ?_
             refine dq rfl (V_assign rfl) ?_
             refine WD.done ?_
             exact WQ.pick (S' := [(0, _), (1, _), (2, _), (4, _), (5, _), (6, _), (7, _), (8, _), (9, _), (10, _), (11, _), (26, _), (36, _), (46, _)]) [0, 1, 2, 4, 5, 6, 7, 8, 9, 10, 11, 26, 36, 46] rfl (hJ b10)
           · refine dal rfl [(32, List.replicate 32 (.int .u8 0))] (fun b10 => ?_)
             refine WD.l ?_
             refine dcp rfl rfl (fun w hp => tag20_calls (lnk 1) lnk_len lnk_bytes (vE 1 2 (some ⟨b41, 0, none⟩)) (some ⟨b41, 0, none⟩) 1 1 [(i : Int)] (vE_ok (by omega)) (vE_he (by decide) (by decide)) w sw) ?_
             refine dq rfl (V_move rfl) ?_
             refine dq rfl vex ?_
             refine dq rfl vex ?_
             refine WD.l ?_
             refine dsta rfl 32 ?_
             refine dq rfl (V_assign rfl) ?_
             refine WD.done ?_
             exact WQ.pick (S' := [(0, _), (1, _), (2, _), (4, _), (5, _), (6, _), (7, _), (8, _), (9, _), (10, _), (11, _), (26, _), (36, _), (46, _)]) [0, 1, 2, 4, 5, 6, 7, 8, 9, 10, 11, 26, 36, 46] rfl (hJ b10)
         · refine dal rfl [(32, List.replicate 32 (.int .u8 0))] (fun b10 => ?_)
           refine WD.l ?_
           refine dcp rfl rfl (fun w hp => link20_calls _ w) ?_
           refine WD.l ?_
           refine dcp rfl rfl (fun w hp => tag20_calls (lnk 1) lnk_len lnk_bytes (vE 1 2 (some ⟨b41, 0, none⟩)) (some ⟨b41, 0, none⟩) 1 1 [(i : Int)] (vE_ok (by omega)) (vE_he (by decide) (by decide)) w sw) ?_
           refine dq rfl (V_move rfl) ?_
           refine dq rfl vex ?_
           refine dq rfl vex ?_
           refine WD.l ?_
           refine dsta rfl 32 ?_
           refine dq rfl (V_assign rfl) ?_
           refine WD.done ?_
           exact WQ.pick (S' := [(0, _), (1, _), (2, _), (4, _), (5, _), (6, _), (7, _), (8, _), (9, _), (10, _), (11, _), (26, _), (36, _), (46, _)]) [0, 1, 2, 4, 5, 6, 7, 8, 9, 10, 11, 26, 36, 46] rfl (hJ b10)
       intro b10
       refine WQ.then ?_
       refine sr ?_
       refine omv ?_
       refine ov (vlda 69) ?_
       refine ov (vlda 32) ?_
       refine omv ?_
       first | refine ov vmulN ?_ | refine ov vmul ?_
       refine cgP _ rfl (fun w hp => snd20_calls b19.1.1 b19.1.2 5 l0 (by decide) e0 hb0 (ps3 b19.2.1.p b19.2.2.1.p b19.2.2.2.p) rfl m ck hB.j.g (vE 1 2 (some ⟨b41, 0, none⟩)) (some ⟨b41, 0, none⟩) 1 1 [(i : Int)] (vE_ok (by omega)) (vE_he (by decide) (by decide)) (tgL (lnk 1) (vE 1 2 (some ⟨b41, 0, none⟩)) [(i : Int)]) tgL_len tgL_bytes ((i : Int) * 10) (by show ¬ ((1 : Int) = 2 ∨ (i : Int) * 10 < 0 ∨ (1000000 : Int) < (i : Int) * 10); omega) y z hB.j.oky hB.j.okz (by rw [hB.j.py]; rfl) (by rw [hB.j.pz]; rfl) (by have := hB.j.nz; omega) w (HP.here hp cov) (fun w1 M h1 => Sr.pastP hp h1 (hs := by exact Sr.own at_ iv_one))) (fun r63 h63 => ?_)
       simp only [List.cons_append, List.nil_append, List.append_nil, List.append_assoc]
       refine WL.back (stpL b19.1.2 5 l0 r63.m r63.ck) ?_
       simp only [List.cons_append, List.nil_append, List.append_nil, List.append_assoc]
       refine WL.back (accP r63.a) ?_
       simp only [List.cons_append, List.nil_append, List.append_nil, List.append_assoc]
       refine WL.back (accP r63.c) ?_
       simp only [List.cons_append, List.nil_append, List.append_nil, List.append_assoc]
       have hsc63 := h63.sc
       have hst63 := h63.st
       unfold stV
       have hQ := hB.yz (by omega) h63 rfl
       obtain ⟨Y, Z, M, CK, SS, KK⟩ := r63
       dsimp only at hQ hsc63 hst63 ⊢
       obtain ⟨X, hx⟩ : ∃ q, q = x := ⟨_, rfl⟩
       subst hx
       refine omv ?_
       refine ov vex ?_
       refine ov vex ?_
       refine oal [(1, [.int .i64 0]), (1, [.int .i64 0]), (1, [.int .i64 0]), (1, [.int .i64 0]), (32, List.replicate 32 (.int .u8 0)), (32, List.replicate 32 (.int .u8 0))] (fun b12 => ?_)
       refine osta 68 ?_
       refine oas ?_
       refine nq ?_
       refine W.seq ?_
       refine W.seq ?_
       by_cases hk : KK = 0
       · obtain ⟨_, hq, hN⟩ | ⟨hk2, hq, hN⟩ := hQ
         rotate_left
         · omega
         refine W.region ?_
         refine omv ?_
         refine ov (v2 V_neq) ?_
         refine omv ?_
         refine oy rfl (by simp) ?_
         refine omv ?_
         refine oy rfl (by simp) ?_
         refine ov (v2 V_neq) ?_
         refine oy rfl (by simp) ?_
         refine omv ?_
         refine on rfl (by simp [hk]) ?_
         refine on rfl (by simp [hk]) ?_
         refine oy rfl (by simp) ?_
         refine ov (V_pick_f rfl (by simp [hk]) rfl) ?_
         refine ov (V_pick_f rfl (by simp) rfl) ?_
         refine nq ?_
         refine W.cond_false rfl rfl ?_
         refine W.skip ?_
         refine WQ.then ?_
         refine W.seq ?_
         refine sr ?_
         refine omv ?_
         refine ov (v2 V_eql) ?_
         refine nq ?_
         refine W.cond_true rfl (decide_eq_true hk) ?_
         have hg2 : (cn3 y z).getD 2 0 = z.ms.length := rfl
         refine W.region ?_
         refine ov (vfa0 1 1) ?_
         refine ov vld ?_
         refine ov (viA0 (j := 2) 3) ?_
         first | refine ov vldI ?_ | refine ov vld ?_
         first | refine ov vaddN ?_ | refine ov vadd ?_
         refine ov (viA0 (j := 2) 3) ?_
         first | refine ostI ?_ | refine ost ?_
         refine nq ?_
         refine W.seq ?_
         rw [show List.set (cn3 y z) 2 ((cn3 y z).getD 2 0 + 1) = cn3 Y Z from hq.symm]
         refine W.region ?_
         refine oas ?_
         refine nq ?_
         refine W.block ?_
         -- LOOP 1
         refine W.pick (S' := [(14, _), (0, _), (1, _), (2, _), (4, _), (5, _), (6, _), (7, _), (8, _), (9, _), (10, _), (11, _), (13, _), (26, _), (36, _), (46, _), (75, _), (77, _)]) [14, 0, 1, 2, 4, 5, 6, 7, 8, 9, 10, 11, 13, 26, 36, 46, 75, 77] rfl ?_
         refine W.loopG (σ := Nat) (fun q => q ≤ 3) (fun q => [(14, .int .i64 (q : Nat))]) (fun q => [(b7, .cells [(3, iv .i64 (cn3 Y Z))] 28)]) [(b19.1.1, _), (b2, _)] (fun q => stpL b19.1.2 5 l0 M CK ++ (accP X ++ (accP Y ++ accP Z))) (fun q => 3 - q) 0 rfl cov (Nat.zero_le _) ?_
         rintro q hi
         refine W.seq ?_
         refine sr ?_
         refine omv ?_
         refine ov (v2 V_lss) ?_
         refine nq ?_
         refine W.cond_dec rfl (fun g4 => ?_) (fun g4 => ?_)
         · refine W.skip ?_
           refine WQ.then ?_
           refine W.seq ?_
           refine W.block ?_
           refine W.seq ?_
           by_cases n0 : q = 0
           · subst n0
             refine W.region ?_
             refine omv ?_
             refine omv ?_
             refine cgP _ rfl (fun w hp => mails20_calls b19.1.2.r b19.1.1 (ps3 b19.2.1.p b19.2.2.1.p b19.2.2.2.p) rfl ((0 : Nat) : Int) X hN.j.okx (by rw [hN.j.px]; rfl) w (HP.here hp cov)) (fun r91 h91 => ?_)
             simp only [List.cons_append, List.nil_append, List.append_nil, List.append_assoc]
             refine WL.back (accP X) ?_
             simp only [List.cons_append, List.nil_append, List.append_nil, List.append_assoc]
             refine WL.back (gLM 138 r91.1 r91.2.length (r91.2.flatMap mlV) 68) ?_
             simp only [List.cons_append, List.nil_append, List.append_nil, List.append_assoc]
             refine WL.back (r91.2.flatMap mbL) ?_
             simp only [List.cons_append, List.nil_append, List.append_nil, List.append_assoc]
             have hml91 := POK.len h91.1
             rw [absms] at hml91
             have hx0 := hN.x0
             refine omv ?_
             refine ov vex ?_
             refine ov vex ?_
             refine oas ?_
             refine oas ?_
             refine nx ?_
             refine omv ?_
             refine ov (v2 V_neq) ?_
             refine omv ?_
             refine oy rfl (by simp) ?_
             refine omv ?_
             refine oy rfl (by simp) ?_
             refine ov vlenS ?_
             refine oy rfl (by simp) ?_
             refine omv ?_
             refine oy rfl (by simp) ?_
             first | refine ov (viA0 3) ?_ | refine ov (viA0Z 3) ?_
             refine oy rfl (by simp) ?_
             first | refine ov vldI ?_ | refine ov vld ?_
             refine oy rfl (by simp) ?_
             refine ov (v2 V_neq) ?_
             refine ov (V_pick_f rfl (by simp) rfl) ?_
             refine nq ?_
             refine W.cond_false rfl (by simp [cn3, hml91, hx0]) ?_
             refine W.skip ?_
             refine WQ.block_normal ?_
             refine WQ.then ?_
             refine W.region ?_
             refine omv ?_
             first | refine ov vaddN ?_ | refine ov vadd ?_
             refine oas ?_
             refine WL.nil ?_
             exact ag (0 + 1) [14, 0, 1, 2, 4, 5, 6, 7, 8, 9, 10, 11, 13, 26, 36, 46, 75, 77] (by (try dsimp only); exact (by omega)) (by (try dsimp only); omega) rfl cov
           · by_cases n1 : q = 1
             · subst n1
               refine W.region ?_
               refine omv ?_
               refine omv ?_
               refine cgP _ rfl (fun w hp => mails20_calls b19.1.2.r b19.1.1 (ps3 b19.2.1.p b19.2.2.1.p b19.2.2.2.p) rfl ((1 : Nat) : Int) Y hN.j.oky (by rw [hN.j.py]; rfl) w (HP.here hp cov)) (fun r91 h91 => ?_)
               simp only [List.cons_append, List.nil_append, List.append_nil, List.append_assoc]
               refine WL.back (accP Y) ?_
               simp only [List.cons_append, List.nil_append, List.append_nil, List.append_assoc]
               refine WL.back (gLM 138 r91.1 r91.2.length (r91.2.flatMap mlV) 68) ?_
               simp only [List.cons_append, List.nil_append, List.append_nil, List.append_assoc]
               refine WL.back (r91.2.flatMap mbL) ?_
               simp only [List.cons_append, List.nil_append, List.append_nil, List.append_assoc]
               have hml91 := POK.len h91.1
               rw [absms] at hml91
               have hx0 := hN.x0
               refine omv ?_
               refine ov vex ?_
               refine ov vex ?_
               refine oas ?_
               refine oas ?_
               refine nx ?_
               refine omv ?_
               refine ov (v2 V_neq) ?_
               refine omv ?_
               refine oy rfl (by simp) ?_
               refine omv ?_
               refine oy rfl (by simp) ?_
               refine ov vlenS ?_
               refine oy rfl (by simp) ?_
               refine omv ?_
               refine oy rfl (by simp) ?_
               first | refine ov (viA0 3) ?_ | refine ov (viA0Z 3) ?_
               refine oy rfl (by simp) ?_
               first | refine ov vldI ?_ | refine ov vld ?_
               refine oy rfl (by simp) ?_
               refine ov (v2 V_neq) ?_
               refine ov (V_pick_f rfl (by simp) rfl) ?_
               refine nq ?_
               refine W.cond_false rfl (by simp [cn3, hml91, hx0]) ?_
               refine W.skip ?_
               refine WQ.block_normal ?_
               refine WQ.then ?_
               refine W.region ?_
               refine omv ?_
               first | refine ov vaddN ?_ | refine ov vadd ?_
               refine oas ?_
               refine WL.nil ?_
               exact ag (1 + 1) [14, 0, 1, 2, 4, 5, 6, 7, 8, 9, 10, 11, 13, 26, 36, 46, 75, 77] (by (try dsimp only); exact (by omega)) (by (try dsimp only); omega) rfl cov
             · obtain rfl : q = 2 := by omega
               refine W.region ?_
               refine omv ?_
               refine omv ?_
               refine cgP _ rfl (fun w hp => mails20_calls b19.1.2.r b19.1.1 (ps3 b19.2.1.p b19.2.2.1.p b19.2.2.2.p) rfl ((2 : Nat) : Int) Z hN.j.okz (by rw [hN.j.pz]; rfl) w (HP.here hp cov)) (fun r91 h91 => ?_)
               simp only [List.cons_append, List.nil_append, List.append_nil, List.append_assoc]
               refine WL.back (accP Z) ?_
               simp only [List.cons_append, List.nil_append, List.append_nil, List.append_assoc]
               refine WL.back (gLM 138 r91.1 r91.2.length (r91.2.flatMap mlV) 68) ?_
               simp only [List.cons_append, List.nil_append, List.append_nil, List.append_assoc]
               refine WL.back (r91.2.flatMap mbL) ?_
               simp only [List.cons_append, List.nil_append, List.append_nil, List.append_assoc]
               have hml91 := POK.len h91.1
               rw [absms] at hml91
               have hx0 := hN.x0
               refine omv ?_
               refine ov vex ?_
               refine ov vex ?_
               refine oas ?_
               refine oas ?_
               refine nx ?_
               refine omv ?_
               refine ov (v2 V_neq) ?_
               refine omv ?_
               refine oy rfl (by simp) ?_
               refine omv ?_
               refine oy rfl (by simp) ?_
               refine ov vlenS ?_
               refine oy rfl (by simp) ?_
               refine omv ?_
               refine oy rfl (by simp) ?_
               first | refine ov (viA0 3) ?_ | refine ov (viA0Z 3) ?_
               refine oy rfl (by simp) ?_
               first | refine ov vldI ?_ | refine ov vld ?_
               refine oy rfl (by simp) ?_
               refine ov (v2 V_neq) ?_
               refine ov (V_pick_f rfl (by simp) rfl) ?_
               refine nq ?_
               refine W.cond_false rfl (by simp [cn3, hml91, hx0]) ?_
               refine W.skip ?_
               refine WQ.block_normal ?_
               refine WQ.then ?_
               refine W.region ?_
               refine omv ?_
               first | refine ov vaddN ?_ | refine ov vadd ?_
               refine oas ?_
               refine WL.nil ?_
               exact ag (2 + 1) [14, 0, 1, 2, 4, 5, 6, 7, 8, 9, 10, 11, 13, 26, 36, 46, 75, 77] (by (try dsimp only); exact (by omega)) (by (try dsimp only); omega) rfl cov
         · refine W.exit ?_
           refine WQ.then_exit ?_
           refine WQ.then_exit ?_
           refine WQ.block_hit ?_
           refine WQ.block_normal ?_
           refine WQ.then ?_
           refine W.region ?_
           refine omv ?_
           first | refine ov vaddN ?_ | refine ov vadd ?_
           refine oas ?_
           refine WL.nil ?_
           exact ag ((i + 1, X, Y, Z, M, CK)) [8, 0, 1, 2, 4, 5, 6, 7, 26] (by (try dsimp only); exact ⟨by omega, hN⟩) (by (try dsimp only); omega) rfl cov
       · obtain ⟨hk2, hq, hN⟩ | ⟨hk2, hq, hN⟩ := hQ
         · omega
         refine W.region ?_
         refine omv ?_
         refine ov (v2 V_neq) ?_
         refine omv ?_
         refine oy rfl (by simp) ?_
         refine omv ?_
         refine oy rfl (by simp) ?_
         refine ov (v2 V_neq) ?_
         refine oy rfl (by simp) ?_
         refine omv ?_
         refine oy rfl (by simp [hk2]) ?_
         refine omv ?_
         refine oy rfl (by simp [hk2]) ?_
         refine ov (v2 V_neq) ?_
         refine oy rfl (by simp) ?_
         refine ov (V_pick_t rfl (by simp [hk2]) rfl) ?_
         refine ov (V_pick_f rfl (by simp) rfl) ?_
         refine nq ?_
         refine W.cond_false rfl (by simp [hk2]) ?_
         refine W.skip ?_
         refine WQ.then ?_
         refine W.seq ?_
         refine sr ?_
         refine omv ?_
         refine ov (v2 V_eql) ?_
         refine nq ?_
         refine W.cond_false rfl (by simp [hk2]) ?_
         refine W.skip ?_
         refine WQ.then ?_
         refine W.seq ?_
         rw [show cn3 y z = cn3 Y Z from hq.symm]
         refine W.region ?_
         refine oas ?_
         refine nq ?_
         refine W.block ?_
         -- LOOP 2
         refine W.pick (S' := [(14, _), (0, _), (1, _), (2, _), (4, _), (5, _), (6, _), (7, _), (8, _), (9, _), (10, _), (11, _), (13, _), (26, _), (36, _), (46, _), (75, _), (77, _)]) [14, 0, 1, 2, 4, 5, 6, 7, 8, 9, 10, 11, 13, 26, 36, 46, 75, 77] rfl ?_
         refine W.loopG (σ := Nat) (fun q => q ≤ 3) (fun q => [(14, .int .i64 (q : Nat))]) (fun q => [(b7, .cells [(3, iv .i64 (cn3 Y Z))] 28)]) [(b19.1.1, _), (b2, _)] (fun q => stpL b19.1.2 5 l0 M CK ++ (accP X ++ (accP Y ++ accP Z))) (fun q => 3 - q) 0 rfl cov (Nat.zero_le _) ?_
         rintro q hi
         refine W.seq ?_
         refine sr ?_
         refine omv ?_
         refine ov (v2 V_lss) ?_
         refine nq ?_
         refine W.cond_dec rfl (fun g5 => ?_) (fun g5 => ?_)
         · refine W.skip ?_
           refine WQ.then ?_
           refine W.seq ?_
           refine W.block ?_
           refine W.seq ?_
           by_cases n0 : q = 0
           · subst n0
             refine W.region ?_
             refine omv ?_
             refine omv ?_
             refine cgP _ rfl (fun w hp => mails20_calls b19.1.2.r b19.1.1 (ps3 b19.2.1.p b19.2.2.1.p b19.2.2.2.p) rfl ((0 : Nat) : Int) X hN.j.okx (by rw [hN.j.px]; rfl) w (HP.here hp cov)) (fun r91 h91 => ?_)
             simp only [List.cons_append, List.nil_append, List.append_nil, List.append_assoc]
             refine WL.back (accP X) ?_
             simp only [List.cons_append, List.nil_append, List.append_nil, List.append_assoc]
             refine WL.back (gLM 138 r91.1 r91.2.length (r91.2.flatMap mlV) 68) ?_
             simp only [List.cons_append, List.nil_append, List.append_nil, List.append_assoc]
             refine WL.back (r91.2.flatMap mbL) ?_
             simp only [List.cons_append, List.nil_append, List.append_nil, List.append_assoc]
             have hml91 := POK.len h91.1
             rw [absms] at hml91
             have hx0 := hN.x0
             refine omv ?_
             refine ov vex ?_
             refine ov vex ?_
             refine oas ?_
             refine oas ?_
             refine nx ?_
             refine omv ?_
             refine ov (v2 V_neq) ?_
             refine omv ?_
             refine oy rfl (by simp) ?_
             refine omv ?_
             refine oy rfl (by simp) ?_
             refine ov vlenS ?_
             refine oy rfl (by simp) ?_
             refine omv ?_
             refine oy rfl (by simp) ?_
             first | refine ov (viA0 3) ?_ | refine ov (viA0Z 3) ?_
             refine oy rfl (by simp) ?_
             first | refine ov vldI ?_ | refine ov vld ?_
             refine oy rfl (by simp) ?_
             refine ov (v2 V_neq) ?_
             refine ov (V_pick_f rfl (by simp) rfl) ?_
             refine nq ?_
             refine W.cond_false rfl (by simp [cn3, hml91, hx0]) ?_
             refine W.skip ?_
             refine WQ.block_normal ?_
             refine WQ.then ?_
             refine W.region ?_
             refine omv ?_
             first | refine ov vaddN ?_ | refine ov vadd ?_
             refine oas ?_
             refine WL.nil ?_
             exact ag (0 + 1) [14, 0, 1, 2, 4, 5, 6, 7, 8, 9, 10, 11, 13, 26, 36, 46, 75, 77] (by (try dsimp only); exact (by omega)) (by (try dsimp only); omega) rfl cov
           · by_cases n1 : q = 1
             · subst n1
               refine W.region ?_
               refine omv ?_
               refine omv ?_
               refine cgP _ rfl (fun w hp => mails20_calls b19.1.2.r b19.1.1 (ps3 b19.2.1.p b19.2.2.1.p b19.2.2.2.p) rfl ((1 : Nat) : Int) Y hN.j.oky (by rw [hN.j.py]; rfl) w (HP.here hp cov)) (fun r91 h91 => ?_)
               simp only [List.cons_append, List.nil_append, List.append_nil, List.append_assoc]
               refine WL.back (accP Y) ?_
               simp only [List.cons_append, List.nil_append, List.append_nil, List.append_assoc]
               refine WL.back (gLM 138 r91.1 r91.2.length (r91.2.flatMap mlV) 68) ?_
               simp only [List.cons_append, List.nil_append, List.append_nil, List.append_assoc]
               refine WL.back (r91.2.flatMap mbL) ?_
               simp only [List.cons_append, List.nil_append, List.append_nil, List.append_assoc]
               have hml91 := POK.len h91.1
               rw [absms] at hml91
               have hx0 := hN.x0
               refine omv ?_
               refine ov vex ?_
               refine ov vex ?_
               refine oas ?_
               refine oas ?_
               refine nx ?_
               refine omv ?_
               refine ov (v2 V_neq) ?_
               refine omv ?_
               refine oy rfl (by simp) ?_
               refine omv ?_
               refine oy rfl (by simp) ?_
               refine ov vlenS ?_
               refine oy rfl (by simp) ?_
               refine omv ?_
               refine oy rfl (by simp) ?_
               first | refine ov (viA0 3) ?_ | refine ov (viA0Z 3) ?_
               refine oy rfl (by simp) ?_
               first | refine ov vldI ?_ | refine ov vld ?_
               refine oy rfl (by simp) ?_
               refine ov (v2 V_neq) ?_
               refine ov (V_pick_f rfl (by simp) rfl) ?_
               refine nq ?_
               refine W.cond_false rfl (by simp [cn3, hml91, hx0]) ?_
               refine W.skip ?_
               refine WQ.block_normal ?_
               refine WQ.then ?_
               refine W.region ?_
               refine omv ?_
               first | refine ov vaddN ?_ | refine ov vadd ?_
               refine oas ?_
               refine WL.nil ?_
               exact ag (1 + 1) [14, 0, 1, 2, 4, 5, 6, 7, 8, 9, 10, 11, 13, 26, 36, 46, 75, 77] (by (try dsimp only); exact (by omega)) (by (try dsimp only); omega) rfl cov
             · obtain rfl : q = 2 := by omega
               refine W.region ?_
               refine omv ?_
               refine omv ?_
               refine cgP _ rfl (fun w hp => mails20_calls b19.1.2.r b19.1.1 (ps3 b19.2.1.p b19.2.2.1.p b19.2.2.2.p) rfl ((2 : Nat) : Int) Z hN.j.okz (by rw [hN.j.pz]; rfl) w (HP.here hp cov)) (fun r91 h91 => ?_)
               simp only [List.cons_append, List.nil_append, List.append_nil, List.append_assoc]
               refine WL.back (accP Z) ?_
               simp only [List.cons_append, List.nil_append, List.append_nil, List.append_assoc]
               refine WL.back (gLM 138 r91.1 r91.2.length (r91.2.flatMap mlV) 68) ?_
               simp only [List.cons_append, List.nil_append, List.append_nil, List.append_assoc]
               refine WL.back (r91.2.flatMap mbL) ?_
               simp only [List.cons_append, List.nil_append, List.append_nil, List.append_assoc]
               have hml91 := POK.len h91.1
               rw [absms] at hml91
               have hx0 := hN.x0
               refine omv ?_
               refine ov vex ?_
               refine ov vex ?_
               refine oas ?_
               refine oas ?_
               refine nx ?_
               refine omv ?_
               refine ov (v2 V_neq) ?_
               refine omv ?_
               refine oy rfl (by simp) ?_
               refine omv ?_
               refine oy rfl (by simp) ?_
               refine ov vlenS ?_
               refine oy rfl (by simp) ?_
               refine omv ?_
               refine oy rfl (by simp) ?_
               first | refine ov (viA0 3) ?_ | refine ov (viA0Z 3) ?_
               refine oy rfl (by simp) ?_
               first | refine ov vldI ?_ | refine ov vld ?_
               refine oy rfl (by simp) ?_
               refine ov (v2 V_neq) ?_
               refine ov (V_pick_f rfl (by simp) rfl) ?_
               refine nq ?_
               refine W.cond_false rfl (by simp [cn3, hml91, hx0]) ?_
               refine W.skip ?_
               refine WQ.block_normal ?_
               refine WQ.then ?_
               refine W.region ?_
               refine omv ?_
               first | refine ov vaddN ?_ | refine ov vadd ?_
               refine oas ?_
               refine WL.nil ?_
               exact ag (2 + 1) [14, 0, 1, 2, 4, 5, 6, 7, 8, 9, 10, 11, 13, 26, 36, 46, 75, 77] (by (try dsimp only); exact (by omega)) (by (try dsimp only); omega) rfl cov
         · refine W.exit ?_
           refine WQ.then_exit ?_
           refine WQ.then_exit ?_
           refine WQ.block_hit ?_
           refine WQ.block_normal ?_
           refine WQ.then ?_
           refine W.region ?_
           refine omv ?_
           first | refine ov vaddN ?_ | refine ov vadd ?_
           refine oas ?_
           refine WL.nil ?_
           exact ag ((i + 1, X, Y, Z, M, CK)) [8, 0, 1, 2, 4, 5, 6, 7, 26] (by (try dsimp only); exact ⟨by omega, hN⟩) (by (try dsimp only); omega) rfl cov
     · refine W.skip ?_
       refine WQ.then ?_
       refine W.seq ?_
       apply W.j1
       · intro hJ
         refine dr (.q 0 (.q 1 (.q 3 (.l2 2 (.l2 4 (.q 5 (.q 6 (.q 7 (.l 8 (.l 9 (.q 10 (.done))))))) 8 (.l 4 (.q 5 (.q 6 (.q 7 (.l 9 (.q 10 (.done)))))))) 8 (.l 2 (.l 4 (.q 5 (.q 6 (.q 7 (.l 9 (.q 10 (.done)))))))))))) [(b9, _)] ?_
         refine dq rfl (vfa0 0 1) ?_
         refine dq rfl vld ?_
         refine dq rfl (vlda 69) ?_
         refine WD.l2 ?_ ?_
         · refine dcp rfl rfl (fun w hp => link20_calls _ w) ?_
           refine WD.l2 ?_ ?_
           · refine dcp rfl rfl (fun w hp => tag20_calls (lnk 0) lnk_len lnk_bytes (vE 0 1 (some ⟨b41, 0, none⟩)) (some ⟨b41, 0, none⟩) 1 1 [(i : Int)] (vE_ok (by omega)) (vE_he (by decide) (by decide)) w sw) ?_
             refine dq rfl (V_move rfl) ?_
             refine dq rfl vex ?_
             refine dq rfl vex ?_
             refine WD.l ?_
             refine dal rfl [(32, List.replicate 32 (.int .u8 0))] (fun b10 => ?_)
             refine WD.l ?_
             refine dsta rfl 32 ?_
             refine dq rfl (V_assign rfl) ?_
             refine WD.done ?_
             exact WQ.pick (S' := [(0, _), (1, _), (2, _), (4, _), (5, _), (6, _), (7, _), (8, _), (9, _), (10, _), (11, _), (26, _), (36, _), (46, _)]) [0, 1, 2, 4, 5, 6, 7, 8, 9, 10, 11, 26, 36, 46] rfl (hJ b10)
           · refine dal rfl [(32, List.replicate 32 (.int .u8 0))] (fun b10 => ?_)
             refine WD.l ?_
             refine dcp rfl rfl (fun w hp => tag20_calls (lnk 0) lnk_len lnk_bytes (vE 0 1 (some ⟨b41, 0, none⟩)) (some ⟨b41, 0, none⟩) 1 1 [(i : Int)] (vE_ok (by omega)) (vE_he (by decide) (by decide)) w sw) ?_
             refine dq rfl (V_move rfl) ?_
             refine dq rfl vex ?_
             refine dq rfl vex ?_
             refine WD.l ?_
             refine dsta rfl 32 ?_
             refine dq rfl (V_assign rfl) ?_
             refine WD.done ?_
             exact WQ.pick (S' := [(0, _), (1, _), (2, _), (4, _), (5, _), (6, _), (7, _), (8, _), (9, _), (10, _), (11, _), (26, _), (36, _), (46, _)]) [0, 1, 2, 4, 5, 6, 7, 8, 9, 10, 11, 26, 36, 46] rfl (hJ b10)
         · refine dal rfl [(32, List.replicate 32 (.int .u8 0))] (fun b10 => ?_)
           refine WD.l ?_
           refine dcp rfl rfl (fun w hp => link20_calls _ w) ?_
           refine WD.l ?_
           refine dcp rfl rfl (fun w hp => tag20_calls (lnk 0) lnk_len lnk_bytes (vE 0 1 (some ⟨b41, 0, none⟩)) (some ⟨b41, 0, none⟩) 1 1 [(i : Int)] (vE_ok (by omega)) (vE_he (by decide) (by decide)) w sw) ?_
           refine dq rfl (V_move rfl) ?_
           refine dq rfl vex ?_
           refine dq rfl vex ?_
           refine WD.l ?_
           refine dsta rfl 32 ?_
           refine dq rfl (V_assign rfl) ?_
           refine WD.done ?_
           exact WQ.pick (S' := [(0, _), (1, _), (2, _), (4, _), (5, _), (6, _), (7, _), (8, _), (9, _), (10, _), (11, _), (26, _), (36, _), (46, _)]) [0, 1, 2, 4, 5, 6, 7, 8, 9, 10, 11, 26, 36, 46] rfl (hJ b10)
       intro b10
       refine WQ.then ?_
       refine sr ?_
       refine omv ?_
       refine ov (vlda 69) ?_
       refine ov (vlda 32) ?_
       refine omv ?_
       first | refine ov vmulN ?_ | refine ov vmul ?_
       refine cgP _ rfl (fun w hp => snd20_calls b19.1.1 b19.1.2 5 l0 (by decide) e0 hb0 (ps3 b19.2.1.p b19.2.2.1.p b19.2.2.2.p) rfl m ck hB.j.g (vE 0 1 (some ⟨b41, 0, none⟩)) (some ⟨b41, 0, none⟩) 1 1 [(i : Int)] (vE_ok (by omega)) (vE_he (by decide) (by decide)) (tgL (lnk 0) (vE 0 1 (some ⟨b41, 0, none⟩)) [(i : Int)]) tgL_len tgL_bytes ((i : Int) * 10) (by show ¬ ((0 : Int) = 1 ∨ (i : Int) * 10 < 0 ∨ (1000000 : Int) < (i : Int) * 10); omega) x y hB.j.okx hB.j.oky (by rw [hB.j.px]; rfl) (by rw [hB.j.py]; rfl) (by have := hB.j.ny; omega) w (HP.here hp cov) (fun w1 M h1 => Sr.pastP hp h1 (hs := by exact Sr.own at_ iv_one))) (fun r63 h63 => ?_)
       simp only [List.cons_append, List.nil_append, List.append_nil, List.append_assoc]
       refine WL.back (stpL b19.1.2 5 l0 r63.m r63.ck) ?_
       simp only [List.cons_append, List.nil_append, List.append_nil, List.append_assoc]
       refine WL.back (accP r63.a) ?_
       simp only [List.cons_append, List.nil_append, List.append_nil, List.append_assoc]
       refine WL.back (accP r63.c) ?_
       simp only [List.cons_append, List.nil_append, List.append_nil, List.append_assoc]
       have hsc63 := h63.sc
       have hst63 := h63.st
       unfold stV
       have hQ := hB.xy (by omega) h63 rfl
       obtain ⟨X, Y, M, CK, SS, KK⟩ := r63
       dsimp only at hQ hsc63 hst63 ⊢
       obtain ⟨Z, hx⟩ : ∃ q, q = z := ⟨_, rfl⟩
       subst hx
       refine omv ?_
       refine ov vex ?_
       refine ov vex ?_
       refine oal [(1, [.int .i64 0]), (1, [.int .i64 0]), (1, [.int .i64 0]), (1, [.int .i64 0]), (32, List.replicate 32 (.int .u8 0)), (32, List.replicate 32 (.int .u8 0))] (fun b12 => ?_)
       refine osta 68 ?_
       refine oas ?_
       refine nq ?_
       refine W.seq ?_
       refine W.seq ?_
       by_cases hk : KK = 0
       · obtain ⟨_, hq, hN⟩ | ⟨hk2, hq, hN⟩ := hQ
         rotate_left
         · omega
         refine W.region ?_
         refine omv ?_
         refine ov (v2 V_neq) ?_
         refine omv ?_
         refine oy rfl (by simp) ?_
         refine omv ?_
         refine oy rfl (by simp) ?_
         refine ov (v2 V_neq) ?_
         refine oy rfl (by simp) ?_
         refine omv ?_
         refine on rfl (by simp [hk]) ?_
         refine on rfl (by simp [hk]) ?_
         refine oy rfl (by simp) ?_
         refine ov (V_pick_f rfl (by simp [hk]) rfl) ?_
         refine ov (V_pick_f rfl (by simp) rfl) ?_
         refine nq ?_
         refine W.cond_false rfl rfl ?_
         refine W.skip ?_
         refine WQ.then ?_
         refine W.seq ?_
         refine sr ?_
         refine omv ?_
         refine ov (v2 V_eql) ?_
         refine nq ?_
         refine W.cond_true rfl (decide_eq_true hk) ?_
         have hg1 : (cn3 y Z).getD 1 0 = y.ms.length := rfl
         refine W.region ?_
         refine ov (vfa0 1 1) ?_
         refine ov vld ?_
         refine ov (viA0 (j := 1) 3) ?_
         first | refine ov vldI ?_ | refine ov vld ?_
         first | refine ov vaddN ?_ | refine ov vadd ?_
         refine ov (viA0 (j := 1) 3) ?_
         first | refine ostI ?_ | refine ost ?_
         refine nq ?_
         refine W.seq ?_
         rw [show List.set (cn3 y Z) 1 ((cn3 y Z).getD 1 0 + 1) = cn3 Y Z from hq.symm]
         refine W.region ?_
         refine oas ?_
         refine nq ?_
         refine W.block ?_
         -- LOOP 3
         refine W.pick (S' := [(14, _), (0, _), (1, _), (2, _), (4, _), (5, _), (6, _), (7, _), (8, _), (9, _), (10, _), (11, _), (13, _), (26, _), (36, _), (46, _), (75, _), (77, _)]) [14, 0, 1, 2, 4, 5, 6, 7, 8, 9, 10, 11, 13, 26, 36, 46, 75, 77] rfl ?_
         refine W.loopG (σ := Nat) (fun q => q ≤ 3) (fun q => [(14, .int .i64 (q : Nat))]) (fun q => [(b7, .cells [(3, iv .i64 (cn3 Y Z))] 28)]) [(b19.1.1, _), (b2, _)] (fun q => stpL b19.1.2 5 l0 M CK ++ (accP X ++ (accP Y ++ accP Z))) (fun q => 3 - q) 0 rfl cov (Nat.zero_le _) ?_
         rintro q hi
         refine W.seq ?_
         refine sr ?_
         refine omv ?_
         refine ov (v2 V_lss) ?_
         refine nq ?_
         refine W.cond_dec rfl (fun g6 => ?_) (fun g6 => ?_)
         · refine W.skip ?_
           refine WQ.then ?_
           refine W.seq ?_
           refine W.block ?_
           refine W.seq ?_
           by_cases n0 : q = 0
           · subst n0
             refine W.region ?_
             refine omv ?_
             refine omv ?_
             refine cgP _ rfl (fun w hp => mails20_calls b19.1.2.r b19.1.1 (ps3 b19.2.1.p b19.2.2.1.p b19.2.2.2.p) rfl ((0 : Nat) : Int) X hN.j.okx (by rw [hN.j.px]; rfl) w (HP.here hp cov)) (fun r91 h91 => ?_)
             simp only [List.cons_append, List.nil_append, List.append_nil, List.append_assoc]
             refine WL.back (accP X) ?_
             simp only [List.cons_append, List.nil_append, List.append_nil, List.append_assoc]
             refine WL.back (gLM 138 r91.1 r91.2.length (r91.2.flatMap mlV) 68) ?_
             simp only [List.cons_append, List.nil_append, List.append_nil, List.append_assoc]
             refine WL.back (r91.2.flatMap mbL) ?_
             simp only [List.cons_append, List.nil_append, List.append_nil, List.append_assoc]
             have hml91 := POK.len h91.1
             rw [absms] at hml91
             have hx0 := hN.x0
             refine omv ?_
             refine ov vex ?_
             refine ov vex ?_
             refine oas ?_
             refine oas ?_
             refine nx ?_
             refine omv ?_
             refine ov (v2 V_neq) ?_
             refine omv ?_
             refine oy rfl (by simp) ?_
             refine omv ?_
             refine oy rfl (by simp) ?_
             refine ov vlenS ?_
             refine oy rfl (by simp) ?_
             refine omv ?_
             refine oy rfl (by simp) ?_
             first | refine ov (viA0 3) ?_ | refine ov (viA0Z 3) ?_
             refine oy rfl (by simp) ?_
             first | refine ov vldI ?_ | refine ov vld ?_
             refine oy rfl (by simp) ?_
             refine ov (v2 V_neq) ?_
             refine ov (V_pick_f rfl (by simp) rfl) ?_
             refine nq ?_
             refine W.cond_false rfl (by simp [cn3, hml91, hx0]) ?_
             refine W.skip ?_
             refine WQ.block_normal ?_
             refine WQ.then ?_
             refine W.region ?_
             refine omv ?_
             first | refine ov vaddN ?_ | refine ov vadd ?_
             refine oas ?_
             refine WL.nil ?_
             exact ag (0 + 1) [14, 0, 1, 2, 4, 5, 6, 7, 8, 9, 10, 11, 13, 26, 36, 46, 75, 77] (by (try dsimp only); exact (by omega)) (by (try dsimp only); omega) rfl cov
           · by_cases n1 : q = 1
             · subst n1
               refine W.region ?_
               refine omv ?_
               refine omv ?_
               refine cgP _ rfl (fun w hp => mails20_calls b19.1.2.r b19.1.1 (ps3 b19.2.1.p b19.2.2.1.p b19.2.2.2.p) rfl ((1 : Nat) : Int) Y hN.j.oky (by rw [hN.j.py]; rfl) w (HP.here hp cov)) (fun r91 h91 => ?_)
               simp only [List.cons_append, List.nil_append, List.append_nil, List.append_assoc]
               refine WL.back (accP Y) ?_
               simp only [List.cons_append, List.nil_append, List.append_nil, List.append_assoc]
               refine WL.back (gLM 138 r91.1 r91.2.length (r91.2.flatMap mlV) 68) ?_
               simp only [List.cons_append, List.nil_append, List.append_nil, List.append_assoc]
               refine WL.back (r91.2.flatMap mbL) ?_
               simp only [List.cons_append, List.nil_append, List.append_nil, List.append_assoc]
               have hml91 := POK.len h91.1
               rw [absms] at hml91
               have hx0 := hN.x0
               refine omv ?_
               refine ov vex ?_
               refine ov vex ?_
               refine oas ?_
               refine oas ?_
               refine nx ?_
               refine omv ?_
               refine ov (v2 V_neq) ?_
               refine omv ?_
               refine oy rfl (by simp) ?_
               refine omv ?_
               refine oy rfl (by simp) ?_
               refine ov vlenS ?_
               refine oy rfl (by simp) ?_
               refine omv ?_
               refine oy rfl (by simp) ?_
               first | refine ov (viA0 3) ?_ | refine ov (viA0Z 3) ?_
               refine oy rfl (by simp) ?_
               first | refine ov vldI ?_ | refine ov vld ?_
               refine oy rfl (by simp) ?_
               refine ov (v2 V_neq) ?_
               refine ov (V_pick_f rfl (by simp) rfl) ?_
               refine nq ?_
               refine W.cond_false rfl (by simp [cn3, hml91, hx0]) ?_
               refine W.skip ?_
               refine WQ.block_normal ?_
               refine WQ.then ?_
               refine W.region ?_
               refine omv ?_
               first | refine ov vaddN ?_ | refine ov vadd ?_
               refine oas ?_
               refine WL.nil ?_
               exact ag (1 + 1) [14, 0, 1, 2, 4, 5, 6, 7, 8, 9, 10, 11, 13, 26, 36, 46, 75, 77] (by (try dsimp only); exact (by omega)) (by (try dsimp only); omega) rfl cov
             · obtain rfl : q = 2 := by omega
               refine W.region ?_
               refine omv ?_
               refine omv ?_
               refine cgP _ rfl (fun w hp => mails20_calls b19.1.2.r b19.1.1 (ps3 b19.2.1.p b19.2.2.1.p b19.2.2.2.p) rfl ((2 : Nat) : Int) Z hN.j.okz (by rw [hN.j.pz]; rfl) w (HP.here hp cov)) (fun r91 h91 => ?_)
               simp only [List.cons_append, List.nil_append, List.append_nil, List.append_assoc]
               refine WL.back (accP Z) ?_
               simp only [List.cons_append, List.nil_append, List.append_nil, List.append_assoc]
               refine WL.back (gLM 138 r91.1 r91.2.length (r91.2.flatMap mlV) 68) ?_
               simp only [List.cons_append, List.nil_append, List.append_nil, List.append_assoc]
               refine WL.back (r91.2.flatMap mbL) ?_
               simp only [List.cons_append, List.nil_append, List.append_nil, List.append_assoc]
               have hml91 := POK.len h91.1
               rw [absms] at hml91
               have hx0 := hN.x0
               refine omv ?_
               refine ov vex ?_
               refine ov vex ?_
               refine oas ?_
               refine oas ?_
               refine nx ?_
               refine omv ?_
               refine ov (v2 V_neq) ?_
               refine omv ?_
               refine oy rfl (by simp) ?_
               refine omv ?_
               refine oy rfl (by simp) ?_
               refine ov vlenS ?_
               refine oy rfl (by simp) ?_
               refine omv ?_
               refine oy rfl (by simp) ?_
               first | refine ov (viA0 3) ?_ | refine ov (viA0Z 3) ?_
               refine oy rfl (by simp) ?_
               first | refine ov vldI ?_ | refine ov vld ?_
               refine oy rfl (by simp) ?_
               refine ov (v2 V_neq) ?_
               refine ov (V_pick_f rfl (by simp) rfl) ?_
               refine nq ?_
               refine W.cond_false rfl (by simp [cn3, hml91, hx0]) ?_
               refine W.skip ?_
               refine WQ.block_normal ?_
               refine WQ.then ?_
               refine W.region ?_
               refine omv ?_
               first | refine ov vaddN ?_ | refine ov vadd ?_
               refine oas ?_
               refine WL.nil ?_
               exact ag (2 + 1) [14, 0, 1, 2, 4, 5, 6, 7, 8, 9, 10, 11, 13, 26, 36, 46, 75, 77] (by (try dsimp only); exact (by omega)) (by (try dsimp only); omega) rfl cov
         · refine W.exit ?_
           refine WQ.then_exit ?_
           refine WQ.then_exit ?_
           refine WQ.block_hit ?_
           refine WQ.block_normal ?_
           refine WQ.then ?_
           refine W.region ?_
           refine omv ?_
           first | refine ov vaddN ?_ | refine ov vadd ?_
           refine oas ?_
           refine WL.nil ?_
           exact ag ((i + 1, X, Y, Z, M, CK)) [8, 0, 1, 2, 4, 5, 6, 7, 26] (by (try dsimp only); exact ⟨by omega, hN⟩) (by (try dsimp only); omega) rfl cov
       · obtain ⟨hk2, hq, hN⟩ | ⟨hk2, hq, hN⟩ := hQ
         · omega
         refine W.region ?_
         refine omv ?_
         refine ov (v2 V_neq) ?_
         refine omv ?_
         refine oy rfl (by simp) ?_
         refine omv ?_
         refine oy rfl (by simp) ?_
         refine ov (v2 V_neq) ?_
         refine oy rfl (by simp) ?_
         refine omv ?_
         refine oy rfl (by simp [hk2]) ?_
         refine omv ?_
         refine oy rfl (by simp [hk2]) ?_
         refine ov (v2 V_neq) ?_
         refine oy rfl (by simp) ?_
         refine ov (V_pick_t rfl (by simp [hk2]) rfl) ?_
         refine ov (V_pick_f rfl (by simp) rfl) ?_
         refine nq ?_
         refine W.cond_false rfl (by simp [hk2]) ?_
         refine W.skip ?_
         refine WQ.then ?_
         refine W.seq ?_
         refine sr ?_
         refine omv ?_
         refine ov (v2 V_eql) ?_
         refine nq ?_
         refine W.cond_false rfl (by simp [hk2]) ?_
         refine W.skip ?_
         refine WQ.then ?_
         refine W.seq ?_
         rw [show cn3 y Z = cn3 Y Z from hq.symm]
         refine W.region ?_
         refine oas ?_
         refine nq ?_
         refine W.block ?_
         -- LOOP 4
         refine W.pick (S' := [(14, _), (0, _), (1, _), (2, _), (4, _), (5, _), (6, _), (7, _), (8, _), (9, _), (10, _), (11, _), (13, _), (26, _), (36, _), (46, _), (75, _), (77, _)]) [14, 0, 1, 2, 4, 5, 6, 7, 8, 9, 10, 11, 13, 26, 36, 46, 75, 77] rfl ?_
         refine W.loopG (σ := Nat) (fun q => q ≤ 3) (fun q => [(14, .int .i64 (q : Nat))]) (fun q => [(b7, .cells [(3, iv .i64 (cn3 Y Z))] 28)]) [(b19.1.1, _), (b2, _)] (fun q => stpL b19.1.2 5 l0 M CK ++ (accP X ++ (accP Y ++ accP Z))) (fun q => 3 - q) 0 rfl cov (Nat.zero_le _) ?_
         rintro q hi
         refine W.seq ?_
         refine sr ?_
         refine omv ?_
         refine ov (v2 V_lss) ?_
         refine nq ?_
         refine W.cond_dec rfl (fun g7 => ?_) (fun g7 => ?_)
         · refine W.skip ?_
           refine WQ.then ?_
           refine W.seq ?_
           refine W.block ?_
           refine W.seq ?_
           by_cases n0 : q = 0
           · subst n0
             refine W.region ?_
             refine omv ?_
             refine omv ?_
             refine cgP _ rfl (fun w hp => mails20_calls b19.1.2.r b19.1.1 (ps3 b19.2.1.p b19.2.2.1.p b19.2.2.2.p) rfl ((0 : Nat) : Int) X hN.j.okx (by rw [hN.j.px]; rfl) w (HP.here hp cov)) (fun r91 h91 => ?_)
             simp only [List.cons_append, List.nil_append, List.append_nil, List.append_assoc]
             refine WL.back (accP X) ?_
             simp only [List.cons_append, List.nil_append, List.append_nil, List.append_assoc]
             refine WL.back (gLM 138 r91.1 r91.2.length (r91.2.flatMap mlV) 68) ?_
             simp only [List.cons_append, List.nil_append, List.append_nil, List.append_assoc]
             refine WL.back (r91.2.flatMap mbL) ?_
             simp only [List.cons_append, List.nil_append, List.append_nil, List.append_assoc]
             have hml91 := POK.len h91.1
             rw [absms] at hml91
             have hx0 := hN.x0
             refine omv ?_
             refine ov vex ?_
             refine ov vex ?_
             refine oas ?_
             refine oas ?_
             refine nx ?_
             refine omv ?_
             refine ov (v2 V_neq) ?_
             refine omv ?_
             refine oy rfl (by simp) ?_
             refine omv ?_
             refine oy rfl (by simp) ?_
             refine ov vlenS ?_
             refine oy rfl (by simp) ?_
             refine omv ?_
             refine oy rfl (by simp) ?_
             first | refine ov (viA0 3) ?_ | refine ov (viA0Z 3) ?_
             refine oy rfl (by simp) ?_
             first | refine ov vldI ?_ | refine ov vld ?_
             refine oy rfl (by simp) ?_
             refine ov (v2 V_neq) ?_
             refine ov (V_pick_f rfl (by simp) rfl) ?_
             refine nq ?_
             refine W.cond_false rfl (by simp [cn3, hml91, hx0]) ?_
             refine W.skip ?_
             refine WQ.block_normal ?_
             refine WQ.then ?_
             refine W.region ?_
             refine omv ?_
             first | refine ov vaddN ?_ | refine ov vadd ?_
             refine oas ?_
             refine WL.nil ?_
             exact ag (0 + 1) [14, 0, 1, 2, 4, 5, 6, 7, 8, 9, 10, 11, 13, 26, 36, 46, 75, 77] (by (try dsimp only); exact (by omega)) (by (try dsimp only); omega) rfl cov
           · by_cases n1 : q = 1
             · subst n1
               refine W.region ?_
               refine omv ?_
               refine omv ?_
               refine cgP _ rfl (fun w hp => mails20_calls b19.1.2.r b19.1.1 (ps3 b19.2.1.p b19.2.2.1.p b19.2.2.2.p) rfl ((1 : Nat) : Int) Y hN.j.oky (by rw [hN.j.py]; rfl) w (HP.here hp cov)) (fun r91 h91 => ?_)
               simp only [List.cons_append, List.nil_append, List.append_nil, List.append_assoc]
               refine WL.back (accP Y) ?_
               simp only [List.cons_append, List.nil_append, List.append_nil, List.append_assoc]
               refine WL.back (gLM 138 r91.1 r91.2.length (r91.2.flatMap mlV) 68) ?_
               simp only [List.cons_append, List.nil_append, List.append_nil, List.append_assoc]
               refine WL.back (r91.2.flatMap mbL) ?_
               simp only [List.cons_append, List.nil_append, List.append_nil, List.append_assoc]
               have hml91 := POK.len h91.1
               rw [absms] at hml91
               have hx0 := hN.x0
               refine omv ?_
               refine ov vex ?_
               refine ov vex ?_
               refine oas ?_
               refine oas ?_
               refine nx ?_
               refine omv ?_
               refine ov (v2 V_neq) ?_
               refine omv ?_
               refine oy rfl (by simp) ?_
               refine omv ?_
               refine oy rfl (by simp) ?_
               refine ov vlenS ?_
               refine oy rfl (by simp) ?_
               refine omv ?_
               refine oy rfl (by simp) ?_
               first | refine ov (viA0 3) ?_ | refine ov (viA0Z 3) ?_
               refine oy rfl (by simp) ?_
               first | refine ov vldI ?_ | refine ov vld ?_
               refine oy rfl (by simp) ?_
               refine ov (v2 V_neq) ?_
               refine ov (V_pick_f rfl (by simp) rfl) ?_
               refine nq ?_
               refine W.cond_false rfl (by simp [cn3, hml91, hx0]) ?_
               refine W.skip ?_
               refine WQ.block_normal ?_
               refine WQ.then ?_
               refine W.region ?_
               refine omv ?_
               first | refine ov vaddN ?_ | refine ov vadd ?_
               refine oas ?_
               refine WL.nil ?_
               exact ag (1 + 1) [14, 0, 1, 2, 4, 5, 6, 7, 8, 9, 10, 11, 13, 26, 36, 46, 75, 77] (by (try dsimp only); exact (by omega)) (by (try dsimp only); omega) rfl cov
             · obtain rfl : q = 2 := by omega
               refine W.region ?_
               refine omv ?_
               refine omv ?_
               refine cgP _ rfl (fun w hp => mails20_calls b19.1.2.r b19.1.1 (ps3 b19.2.1.p b19.2.2.1.p b19.2.2.2.p) rfl ((2 : Nat) : Int) Z hN.j.okz (by rw [hN.j.pz]; rfl) w (HP.here hp cov)) (fun r91 h91 => ?_)
               simp only [List.cons_append, List.nil_append, List.append_nil, List.append_assoc]
               refine WL.back (accP Z) ?_
               simp only [List.cons_append, List.nil_append, List.append_nil, List.append_assoc]
               refine WL.back (gLM 138 r91.1 r91.2.length (r91.2.flatMap mlV) 68) ?_
               simp only [List.cons_append, List.nil_append, List.append_nil, List.append_assoc]
               refine WL.back (r91.2.flatMap mbL) ?_
               simp only [List.cons_append, List.nil_append, List.append_nil, List.append_assoc]
               have hml91 := POK.len h91.1
               rw [absms] at hml91
               have hx0 := hN.x0
               refine omv ?_
               refine ov vex ?_
               refine ov vex ?_
               refine oas ?_
               refine oas ?_
               refine nx ?_
               refine omv ?_
               refine ov (v2 V_neq) ?_
               refine omv ?_
               refine oy rfl (by simp) ?_
               refine omv ?_
               refine oy rfl (by simp) ?_
               refine ov vlenS ?_
               refine oy rfl (by simp) ?_
               refine omv ?_
               refine oy rfl (by simp) ?_
               first | refine ov (viA0 3) ?_ | refine ov (viA0Z 3) ?_
               refine oy rfl (by simp) ?_
               first | refine ov vldI ?_ | refine ov vld ?_
               refine oy rfl (by simp) ?_
               refine ov (v2 V_neq) ?_
               refine ov (V_pick_f rfl (by simp) rfl) ?_
               refine nq ?_
               refine W.cond_false rfl (by simp [cn3, hml91, hx0]) ?_
               refine W.skip ?_
               refine WQ.block_normal ?_
               refine WQ.then ?_
               refine W.region ?_
               refine omv ?_
               first | refine ov vaddN ?_ | refine ov vadd ?_
               refine oas ?_
               refine WL.nil ?_
               exact ag (2 + 1) [14, 0, 1, 2, 4, 5, 6, 7, 8, 9, 10, 11, 13, 26, 36, 46, 75, 77] (by (try dsimp only); exact (by omega)) (by (try dsimp only); omega) rfl cov
         · refine W.exit ?_
           refine WQ.then_exit ?_
           refine WQ.then_exit ?_
           refine WQ.block_hit ?_
           refine WQ.block_normal ?_
           refine WQ.then ?_
           refine W.region ?_
           refine omv ?_
           first | refine ov vaddN ?_ | refine ov vadd ?_
           refine oas ?_
           refine WL.nil ?_
           exact ag ((i + 1, X, Y, Z, M, CK)) [8, 0, 1, 2, 4, 5, 6, 7, 26] (by (try dsimp only); exact ⟨by omega, hN⟩) (by (try dsimp only); omega) rfl cov
   · refine W.exit ?_
     refine WQ.then_exit ?_
     refine WQ.then_exit ?_
     refine WQ.block_hit ?_
     refine WQ.then ?_
     refine sr ?_
     refine omv ?_
     refine oas ?_
     refine nq ?_
     refine W.ret ?_
     refine WQ.ret1 Try.results3 (.tmp rfl) ?_
     intro w' hp; exact ⟨by first | rfl | (simp; done) | (simp [*]; done) | simp_all, hp.forget⟩

end Go.Proofs.Ytmeckbjinmgbbaa