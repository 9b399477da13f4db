/- The statements of layer 17: their walks (under way). -/
import Derived.Test.YtbalnjejamigaaaRRead
set_option linter.unusedVariables false
set_option linter.unusedSimpArgs false

namespace Go.Proofs.Ytbalnjejamigaaa
open Go.X

theorem relay17_calls (rl : List Int) (hl : rl.length = 32) (w : World) :
    Calls Try.prog 50 [AG [(32, iv .u8 rl)]].toArray w fun e w' => ∃ r : Rel, True ∧ e = .returned (.pointer (some ⟨r.r, 0, none⟩)) ∧ HP w w' [] [(r.r, .cells [(1, [.int .i64 5]), (1, [.map (some r.m)]), (1, [.func (.func 64) #[] #[.pointer (some ⟨r.v, 0, none⟩), .pointer (some ⟨r.k, 0, none⟩)]])] 106), (r.m, .obj (mapO .i64 [] 0)), (r.v, .cells [(1, [.pointer (some ⟨r.r, 0, none⟩)])] 52), (r.k, .cells [(32, iv .u8 rl)] 25)] := by
 refine calls_of_W Try.func50 rfl Try.ntmps50 rfl rfl (HP.refl w []) ?_
 refine sr ?_
 refine obxa (fun b1 => ?_)
 refine oas ?_
 refine nx ?_
 refine ov (vlda 32) ?_
 refine cg rfl (fun w hp => new16_calls rl 5 hl (by omega) w) (fun b7 h7 => ?_)
 refine omv ?_
 refine ov vex ?_
 refine ov vex ?_
 refine oas ?_
 refine oas ?_
 refine nx ?_
 refine omv ?_
 refine oas ?_
 refine nq ?_
 refine W.ret ?_
 refine WQ.ret1 Try.results50 (.tmp rfl) ?_
 intro w' hp; exact ⟨b7, trivial, rfl, hp.cov cov⟩

theorem joinF_cons {x : List Int} {ll : List (List Int)} : joinF (x :: ll) = highF x.length 4 ++ (x ++ joinF ll) := by simp [joinF]
theorem part_join : ∀ {ll : List (List Int)}, (∀ l ∈ ll, l.length ≤ 1000000) → partL (joinF ll) = some ll
  | [], _ => rfl
  | x :: ll, h => by
    have hx := h x List.mem_cons_self
    have ih := part_join fun l hl => h l (List.mem_cons_of_mem _ hl)
    have ht : (joinF (x :: ll)).take 4 = highF x.length 4 := by
      rw [joinF_cons, List.take_append_of_le_length (by simp), List.take_of_length_le (by simp)]
    have hd : (joinF (x :: ll)).drop 4 = x ++ joinF ll := by
      rw [joinF_cons, List.drop_append_of_le_length (by simp), List.drop_of_length_le (by simp), List.nil_append]
    have hl : (joinF (x :: ll)).length = 4 + (x.length + (joinF ll).length) := by rw [joinF_cons]; simp
    have hn : (numH (highF (x.length : Int) 4)).toNat = x.length := by rw [numH_high4 ⟨by omega, by omega⟩]; simp
    rw [partL_un (List.length_pos_iff.1 (by omega)), if_neg (by omega), ht, hn, if_neg (by omega), hd, List.drop_left, List.take_left, ih]; rfl

theorem join_part {f : Nat} : ∀ {l : List Int} {ll : List (List Int)}, partF f l = some ll → bytes l → joinF ll = l := by
  induction f with
  | zero =>
    intro l ll h _
    unfold partF at h
    split at h
    · rename_i e; cases h; rw [e]; rfl
    · cases h
  | succ f ih =>
    intro l ll h hb
    unfold partF at h
    split at h
    · rename_i e; cases h; rw [e]; rfl
    split at h
    · cases h
    split at h
    · cases h
    rename_i _ h4 hq
    obtain ⟨m, hm, rfl⟩ := Option.map_eq_some_iff.1 h
    have e1 := ih hm ((hb.drop 4).drop _)
    have h0 := numH_bound (hb.take 4)
    have e2 := highF_numH (l := l.take 4) (hb.take 4) (by simp; omega)
    rw [show (l.take 4).length = 4 by simp; omega] at e2
    have e3 : (((l.drop 4).take (numH (l.take 4)).toNat).length : Int) = numH (l.take 4) := by
      rw [List.length_take, List.length_drop]; omega
    rw [joinF_cons, e3, e2, e1, List.take_append_drop, List.take_append_drop]
/-- What is written is read. -/
theorem rep_part {r : RepS} (h : rB r = true) (hok : RepOK r) (hl : r.tn = r.tl.length) : partL (repL r) = some [highF r.id 4, [r.who], r.tl, r.op, bF r.st] := by
  have hb := rB_bd h
  have hbl := bF_len hok.2.2.1 hok.2.2.2.2.1
  have hbn := bN_le (s := r.st)
  refine part_join fun l hm => ?_
  simp only [List.mem_cons, List.not_mem_nil, or_false] at hm
  rcases hm with rfl | rfl | rfl | rfl | rfl
  · simp
  · simp
  · omega
  · rw [hok.1]; omega
  · omega

theorem rep_back {r : RepS} (h : rB r = true) (hok : RepOK r) (B : Option Addr) (c : Nat) : repR B c (highF r.id 4) [r.who] r.tl r.op (bF r.st) = ⟨r.id, r.who, B, r.tl.length, c, r.tl, r.op, r.st⟩ := by
  have hb := rB_bd h
  obtain ⟨-, -, hc, -, ht, -, -, -⟩ := hok
  have e1 : readF (bF r.st) = r.st := by rw [bF_t hb.1, readFg (read_ok hb.1 hc ht), read_bytes hb.1 hc ht]
  have e2 : numH ((highF r.id 4).take 8) = r.id := by rw [List.take_of_length_le (by simp), numH_high4 hb.2.1]
  unfold repR
  rw [e1, e2]; rfl
theorem rep_ok {r : RepS} (h : rB r = true) (hok : RepOK r) (hl : r.tn = r.tl.length) : repE (repL r) = 0 ∧ repTx (repL r) = r.tl ∧ ∀ o, repRd o (repL r) = ⟨r.id, r.who, gA o, r.tl.length, gC o, r.tl, r.op, r.st⟩ := by
  have hp := rep_part h hok hl
  have hb := rB_bd h
  obtain ⟨e1, e2⟩ := part_ok hp
  have e0 := repE_ok e1 (okRows_mk e2 ⟨by simp, rfl, hok.1, by rw [bF_t hb.1]; exact read_ok hb.1 hok.2.2.1 hok.2.2.2.2.1, by rw [rep_back h hok]; rw [← h]; unfold rB; rw [hl]⟩)
  refine ⟨e0, by unfold repTx; rw [if_pos e0, e2]; rfl, fun o => ?_⟩
  unfold repRd
  rw [if_pos e0, e2]
  exact rep_back h hok _ _

theorem andI_31 {x : Int} (h : 0 ≤ x) (h2 : x ≤ 9223372036854775807) : andI .i64 x 31 = x % 32 := by
  obtain ⟨n, rfl⟩ : ∃ n : Nat, x = n := ⟨x.toNat, by omega⟩
  have e : (BitVec.ofInt 64 (n : Int) &&& BitVec.ofInt 64 31).toNat = n % 32 := by
    rw [BitVec.toNat_and]
    have e1 : (BitVec.ofInt 64 (n : Int)).toNat = n := by
      rw [BitVec.toNat_ofInt]; omega
    have e2 : (BitVec.ofInt 64 31).toNat = 2 ^ 5 - 1 := by decide
    rw [e1, e2, Nat.and_two_pow_sub_one_eq_mod]
  show IntKind.i64.wrap (((BitVec.ofInt 64 (n : Int) &&& BitVec.ofInt 64 31).toNat : Nat) : Int) = _
  rw [e, IntKind.wrap_i64]
  omega
section
variable {root op : List Int} {id fr to now t : Int} {A : Option Addr} {n cap : Nat} {tl : List Int}
theorem made_may (h1 : timeB now = true) (hf : 0 ≤ fr ∧ fr < 8) (ht : 0 ≤ to ∧ to < 8) : mayB (madeEnv op fr to tl) now = true := by
  simp [mayB, madeEnv, acB, h1, hf, ht]
theorem made_rB (hm : mayB (madeEnv op fr to tl) now = true) (hid : timeB id = true) (hn : n ≤ 250) : rB (madeR root op id fr to now A n cap tl) = true := by
  have hb := may_bd hm
  have h1 := stamp_right (root := root) (ticks := 5) hm (by omega)
  rw [rB_yes ⟨h1, by show 0 ≤ id ∧ id ≤ 1000000; simpa [timeB] using hid, hb.2.2⟩]
  exact decide_eq_true (by show (n : Int) ≤ 250; omega)
theorem made_com (hm : mayB (madeEnv op fr to tl) now = true) : comL (madeR root op id fr to now A n cap tl) = (madeR root op id fr to now A n cap tl).st.commit := by
  unfold comL madeR
  simp only [stampF_t hm]; rfl
theorem made_to (hm : mayB (madeEnv op fr to tl) now = true) : (madeR root op id fr to now A n cap tl).who = (madeR root op id fr to now A n cap tl).st.to := by
  unfold madeR
  simp only [stampF_t hm]; rfl
/-- A good report is good through the window. -/
theorem made_chk (hm : mayB (madeEnv op fr to tl) now = true) (hid : timeB id = true) (hn : n ≤ 250) (h2 : timeB t = true) : repChk root 5 (madeR root op id fr to now A n cap tl) t = if t < now ∨ t > now + 50 then 5 else 0 := by
  have hr : rB (madeR root op id fr to now A n cap tl) = true ∧ (madeR root op id fr to now A n cap tl).who = (madeR root op id fr to now A n cap tl).st.to := ⟨made_rB hm hid hn, made_to hm⟩
  have hc := check_stamp (root := root) (ticks := 5) (t := t) hm (by omega) h2
  have hc' : checkF root 5 (madeR root op id fr to now A n cap tl).st t = if t < now ∨ t > now + 50 then 5 else 0 := hc
  by_cases h : t < now ∨ t > now + 50
  · rw [if_pos h] at hc' ⊢
    rw [rcE hr (by omega), hc']
  · rw [if_neg h] at hc' ⊢
    rw [rcO hr hc', if_pos (made_com hm)]
theorem made_early (hm : mayB (madeEnv op fr to tl) now = true) (hid : timeB id = true) (hn : n ≤ 250) (h0 : 0 < now) : repChk root 5 (madeR root op id fr to now A n cap tl) (now - 1) = 5 := by
  have hb := may_bd hm
  rw [made_chk hm hid hn (by simp [timeB]; omega), if_pos (by omega)]
/-- One of which the tag is turned in a bit. -/
def turnR (r : RepS) (q : Nat) : RepS := ⟨r.id, r.who, r.ta, r.tn, r.tc, r.tl, r.op, turned r.st q⟩
theorem made_turn (hm : mayB (madeEnv op fr to tl) now = true) (hid : timeB id = true) (hn : n ≤ 250) (h2 : timeB t = true) {q : Nat} (hq : q < 32) : repChk root 5 (turnR (madeR root op id fr to now A n cap tl) q) t = 4 := by
  have h1 : rB (turnR (madeR root op id fr to now A n cap tl) q) = rB (madeR root op id fr to now A n cap tl) := rfl
  have hr : rB (turnR (madeR root op id fr to now A n cap tl) q) = true ∧ (turnR (madeR root op id fr to now A n cap tl) q).who = (turnR (madeR root op id fr to now A n cap tl) q).st.to := ⟨by rw [h1]; exact made_rB hm hid hn, made_to hm⟩
  have hc : checkF root 5 (turnR (madeR root op id fr to now A n cap tl) q).st t = 4 := check_turned hm (by omega) h2 hq
  rw [rcE hr (by omega), hc]
def byR (r : RepS) (k : Int) : RepS := ⟨r.id, k, r.ta, r.tn, r.tc, r.tl, r.op, r.st⟩
theorem made_by (hm : mayB (madeEnv op fr to tl) now = true) {k : Int} (hk : k ≠ to) : repChk root 5 (byR (madeR root op id fr to now A n cap tl) k) t = 1 := by
  refine rc1 fun h => hk ?_
  have e := made_to (root := root) (id := id) (A := A) (n := n) (cap := cap) hm
  exact h.2.trans e.symm
theorem made_ok (ho : op.length = 32) (hob : bytes op) (htl : bytes tl) (hnc : n ≤ cap) : RepOK (madeR root op id fr to now A n cap tl) :=
  ⟨ho, hob, stampF_clen (by simp [madeEnv]), stampF_cb (by simp [madeEnv]), stampF_tlen, stampF_tb, htl, hnc⟩
end
theorem join_mem : ∀ {ll : List (List Int)}, bytes (joinF ll) → ∀ l ∈ ll, bytes l
  | x :: ll, h, l, hl => by
    rw [joinF_cons] at h
    rcases List.mem_cons.1 hl with rfl | hl
    · exact fun c hc => h c (List.mem_append_right _ (List.mem_append_left _ hc))
    · exact join_mem (fun c hc => h c (List.mem_append_right _ (List.mem_append_right _ hc))) l hl
theorem zeroR_ok : RepOK zeroR := ⟨rfl, bytes_zero, rfl, bytes_zero, rfl, bytes_zero, (fun c hc => by cases hc), Nat.le_refl _⟩
/-- What is read is a report's cells. -/
theorem repRd_ok {l : List Int} (hb : bytes l) {o : Gr} (ho : GrOK o (repTx l).length) : RepOK (repRd o l) ∧ (repRd o l).tn = (repTx l).length ∧ (repRd o l).tl = repTx l := by
  by_cases h : repE l = 0
  · have hp : ∃ ll, partL l = some ll ∧ okRows ll = true := by
      unfold repE at h
      split at h
      · cases h
      · rename_i ll hq
        refine ⟨ll, hq, ?_⟩
        cases hk : okRows ll with
        | true => rfl
        | false => rw [hk] at h; cases h
    obtain ⟨ll, hq, hk⟩ := hp
    have hk2 := hk
    simp only [okRows, Bool.and_eq_true, decide_eq_true_eq] at hk2
    obtain ⟨⟨⟨⟨⟨k5, k0⟩, k1⟩, k3⟩, k4⟩, kr⟩ := hk2
    obtain ⟨l0, l1, l2, l3, l4, rfl⟩ := okRows5 k5
    have hr : partR l = [l0, l1, l2, l3, l4] := (part_ok hq).2
    have hm := join_mem (ll := [l0, l1, l2, l3, l4]) (by rw [join_part hq hb]; exact hb)
    have ht : repTx l = l2 := by unfold repTx; rw [if_pos h, hr]; rfl
    have hd : repRd o l = repR (gA o) (gC o) l0 l1 l2 l3 l4 := by unfold repRd; rw [if_pos h, hr]; rfl
    rw [hd, ht]
    rw [ht] at ho
    exact ⟨⟨k3, hm l3 (by simp), readF_c, readF_cb (hm l4 (by simp)), readF_t, readF_tb (hm l4 (by simp)), hm l2 (by simp), ho.cap⟩, rfl, rfl⟩
  · have ht : repTx l = [] := by unfold repTx; rw [if_neg h]
    have hd : repRd o l = zeroR := by unfold repRd; rw [if_neg h]
    rw [hd, ht]
    exact ⟨zeroR_ok, rfl, rfl⟩
theorem repRd_sr {l : List Int} {o : Gr} {w : World} (hs : SrW w 1 (gA o) (repTx l).length (iv .u8 (repTx l))) : SrW w 1 (repRd o l).ta (repRd o l).tn (iv .u8 (repRd o l).tl) := by
  by_cases h : repE l = 0
  · have hd : repRd o l = repR (gA o) (gC o) ((partR l).getD 0 []) ((partR l).getD 1 []) ((partR l).getD 2 []) ((partR l).getD 3 []) ((partR l).getD 4 []) := by unfold repRd; rw [if_pos h]
    have ht : repTx l = (partR l).getD 2 [] := by unfold repTx; rw [if_pos h]
    rw [hd]; rw [ht] at hs; exact hs
  · have hd : repRd o l = zeroR := by unfold repRd; rw [if_neg h]
    rw [hd]; exact SrW.nil
theorem repRd_same {l : List Int} (o o' : Gr) : sameB (repRd o l) (repRd o' l) = true := by
  unfold repRd
  split <;> simp [sameB, sameSt, repR]
/-- Bytes of a good report, read. -/
theorem repread_back (r : RepS) (h : rB r = true) (hok : RepOK r) (hl : r.tn = r.tl.length) (A : Option Addr) (n cap : Nat) (w : World) (hs : SrW w 1 A n (iv .u8 (repL r))) (hb : bytes (repL r)) (hn : n ≤ cap) (hn2 : n ≤ 1000000) :
    Calls Try.prog 47 [.slice A n cap].toArray w fun e w' => ∃ o : Gr, GrOK o r.tl.length ∧ e = .returned (.tuple #[AG (⟨r.id, r.who, gA o, r.tl.length, gC o, r.tl, r.op, r.st⟩ : RepS).V, .int .i64 0]) ∧ HP w w' [] (gL o r.tl.length (iv .u8 r.tl) 5) := by
  obtain ⟨e1, e2, e3⟩ := rep_ok h hok hl
  refine (repread_calls A n cap (repL r) w hs hb hn hn2).mono fun e w' ⟨o, ho, he, hp⟩ => ⟨o, ?_, ?_, ?_⟩
  · rwa [e2] at ho
  · rw [he, e1, e3]
  · rwa [e2] at hp
theorem repL_bytes {r : RepS} (h : rB r = true) (hok : RepOK r) : bytes (repL r) := by
  have hb := rB_bd h
  unfold repL
  refine joinF_bytes fun l hl => ?_
  simp only [List.mem_cons, List.not_mem_nil, or_false] at hl
  rcases hl with rfl | rfl | rfl | rfl | rfl
  · simp
  · intro c hc; rw [List.mem_singleton.1 hc]; omega
  · exact hok.2.2.2.2.2.2.1
  · exact hok.2.1
  · exact bF_bytes hok.2.2.2.1 hok.2.2.2.2.2.1

theorem rF_len {r : RepS} : (rF r).length = rN r := by
  unfold rF rN; split <;> rfl
theorem rF_le {r : RepS} (hok : RepOK r) (hl : r.tn = r.tl.length) : rN r ≤ 1000 := by
  unfold rN; split
  · rename_i h; have := repL_len h hok hl; have := rB_bd h; omega
  · omega

theorem rF_bytes {r : RepS} (hok : RepOK r) : allB (rF r) := by
  unfold rF; split
  · rename_i h; exact repL_bytes h hok
  · intro c hc; cases hc

theorem made17_S (rl op : List Int) (id fr to now : Int) (hl : rl.length = 32) (hrb : bytes rl) (ho : op.length = 32) (hob : bytes op) (hfr : 0 ≤ fr ∧ fr < 8) (hto : 0 ≤ to ∧ to < 8) (A : Option Addr) (n cap : Nat) (tl : List Int) (w : World) (hT : SrW w 1 A n (iv .u8 tl)) (htl : bytes tl) (hnc : n ≤ cap) (hn : n ≤ 1000) :
    Calls Try.prog 53 [AG [(32, iv .u8 rl)], AG [(32, iv .u8 op)], .int .i64 id, .int .i64 fr, .int .i64 to, .int .i64 now, .slice A n cap].toArray w fun e w' => ∃ S : StampS, S = stampF rl 5 (madeEnv op fr to tl) now ∧ e = .returned (AG (⟨id, to, A, n, cap, tl, op, S⟩ : RepS).V) ∧ HP w w' [] [] := by
  exact (made17_calls rl op id fr to now hl hrb ho hob hfr hto A n cap tl w hT htl hnc hn).mono fun e w' ⟨he, hp⟩ => ⟨_, rfl, he, hp⟩

theorem awake17_calls (w : World) : Calls Try.prog 44 ([] : List Value).toArray w fun e w' => e = .returned (.bool true) ∧ HP w w' [] [] := by
 have hm : mayB (madeEnv ([2] ++ List.replicate (32 - 1) 0) 4 5 [120]) 6 = true := by rfl
 refine calls_of_W Try.func44 rfl Try.ntmps44 rfl rfl (HP.refl w []) ?_
 refine sr ?_
 refine oas ?_
 refine nx ?_
 refine ov (vbI 32 .u8 1 [1]) ?_
 refine ov (vbI 32 .u8 1 [2]) ?_
 refine obsI (k := .u8) 5 1 [120] (fun b9 => ?_)
 refine oro ?_
 refine cg rfl (fun w hp => made17_S ([1] ++ List.replicate (32 - 1) 0) ([2] ++ List.replicate (32 - 1) 0) 3 4 5 6 (by simp) sc (by simp) sc (by omega) (by omega) _ _ _ [120] w sw sc sc (by omega)) (fun b11 h11 => ?_)
 have hMr : rB (⟨3, 5, some ⟨b9, 0, none⟩, 1, 1, [120], ([2] ++ List.replicate (32 - 1) 0), b11⟩ : RepS) = true := by subst h11; exact made_rB hm rfl (by omega)
 have hMok : RepOK (⟨3, 5, some ⟨b9, 0, none⟩, 1, 1, [120], ([2] ++ List.replicate (32 - 1) 0), b11⟩ : RepS) := by subst h11; exact made_ok (by simp) sc sc (by omega)
 have hMl : (repL (⟨3, 5, some ⟨b9, 0, none⟩, 1, 1, [120], ([2] ++ List.replicate (32 - 1) 0), b11⟩ : RepS)).length = 132 := repL_len hMr hMok rfl
 have hSc : b11.commit.length = 32 := hMok.2.2.1
 have hSt : b11.tag.length = 32 := hMok.2.2.2.2.1
 unfold RepS.V
 refine oal [(1, [.int .i64 0]), (1, [.int .i64 0]), (1, [.slice none 0 0]), (32, List.replicate 32 (.int .u8 0)), (1, [.int .i64 0]), (1, [.int .i64 0]), (1, [.int .i64 0]), (1, [.int .i64 0]), (32, List.replicate 32 (.int .u8 0)), (32, List.replicate 32 (.int .u8 0))] (fun b1 => ?_)
 refine osta 103 ?_
 refine nx ?_
 refine ov (vlda 103) ?_
 refine cgG rfl (fun w hp => repbytes_calls (⟨3, 5, some ⟨b9, 0, none⟩, 1, 1, [120], ([2] ++ List.replicate (32 - 1) 0), b11⟩ : RepS) hMok w sw) (fun o14 h14 => ?_)
 rw [rN_t hMr] at h14
 rw [rN_t hMr, rF_t hMr, hMr]
 refine omv ?_
 refine ov vex ?_
 refine ov vex ?_
 refine oas ?_
 refine oas ?_
 refine nx ?_
 refine omv ?_
 refine cgG rfl (fun w hp => repread_back (⟨3, 5, some ⟨b9, 0, none⟩, 1, 1, [120], ([2] ++ List.replicate (32 - 1) 0), b11⟩ : RepS) hMr hMok rfl _ _ _ w sw (repL_bytes hMr hMok) sc (by omega)) (fun o19 h19 => ?_)
 refine omv ?_
 refine ov vex ?_
 refine ov vex ?_
 have hXok : RepOK (⟨3, 5, gA o19, 1, gC o19, [120], ([2] ++ List.replicate (32 - 1) 0), b11⟩ : RepS) := by subst h11; exact made_ok (by simp) sc sc h19.cap
 unfold RepS.V
 refine oal [(1, [.int .i64 0]), (1, [.int .i64 0]), (1, [.slice none 0 0]), (32, List.replicate 32 (.int .u8 0)), (1, [.int .i64 0]), (1, [.int .i64 0]), (1, [.int .i64 0]), (1, [.int .i64 0]), (32, List.replicate 32 (.int .u8 0)), (32, List.replicate 32 (.int .u8 0))] (fun b4 => ?_)
 refine osta 103 ?_
 refine oas ?_
 refine nx ?_
 refine ov (vbI 32 .u8 1 [1]) ?_
 refine cg rfl (fun w hp => relay17_calls ([1] ++ List.replicate (32 - 1) 0) (by simp) w) (fun b23 h23 => ?_)
 refine oas ?_
 refine nq ?_
 refine W.seq ?_
 have hck : repChk ([1] ++ List.replicate (32 - 1) 0) 5 (⟨3, 5, gA o19, 1, gC o19, [120], ([2] ++ List.replicate (32 - 1) 0), b11⟩ : RepS) 7 = 0 := by
                                             subst h11
                                             exact (made_chk (id := 3) (A := gA o19) (n := 1) (cap := gC o19) (t := 7) hm rfl (by omega) rfl).trans (if_neg (by omega))
 refine W.region ?_
 refine omv ?_
 refine ov (V_neqP (by kernel_rfl) rfl rfl) ?_
 refine omv ?_
 refine oy rfl rfl ?_
 refine omv ?_
 refine oy rfl rfl ?_
 refine ov (v2 V_eql) ?_
 refine ov (V_pick_t rfl rfl rfl) ?_
 refine omv ?_
 refine oy rfl (by decide) ?_
 refine omv ?_
 refine oy rfl (by decide) ?_
 refine ov (v2 V_eql) ?_
 refine ov (V_pick_t rfl (by decide) rfl) ?_
 refine omv ?_
 refine oy rfl (by decide) ?_
 refine ov (vfa0 0 1) ?_
 refine oy rfl (by decide) ?_
 refine ov vld ?_
 refine oy rfl (by decide) ?_
 refine ov (v2 V_eql) ?_
 refine ov (V_pick_t rfl (by decide) rfl) ?_
 refine omv ?_
 refine oy rfl (decide_eq_true rfl) ?_
 refine omv ?_
 refine oy rfl (decide_eq_true rfl) ?_
 refine ov (vlda 103) ?_
 refine oy rfl (decide_eq_true rfl) ?_
 refine cg rfl (fun w hp => repchk_calls (⟨3, 5, gA o19, 1, gC o19, [120], ([2] ++ List.replicate (32 - 1) 0), b11⟩ : RepS) 7 hXok b23 5 ([1] ++ List.replicate (32 - 1) 0) [] 0 w rat (hh hp) Good.nil (by simp) sc sw (by omega)) (fun b42 h42 => ?_)
 refine oy rfl (decide_eq_true rfl) ?_
 refine ov (v2 V_eql) ?_
 refine ov (V_pick_t rfl (decide_eq_true rfl) rfl) ?_
 refine oas ?_
 refine nq ?_
 refine W.ret ?_
 refine WQ.ret1 Try.results44 (.tmp rfl) ?_
 intro w' hp; exact ⟨by rw [hck]; rfl, hp.forget⟩

theorem reportReads_calls (r : RepS) (hok : RepOK r) (A : Option Addr) (n cap : Nat) (l : List Int) (w : World) (hT : SrW w 1 r.ta r.tn (iv .u8 r.tl)) (hs : SrW w 1 A n (iv .u8 l)) (hb : bytes l) (hn : n ≤ cap) :
    Calls Try.prog 16 [AG r.V, .slice A n cap].toArray w fun e w' => e = .returned (.bool true) ∧ HP w w' [] [] := by
 obtain ⟨ho, hob, hc, hcb, ht, htb, htl, htc⟩ := id hok
 have hlt := SrW.ilen hT
 have hl := SrW.ilen hs
 have hall := rF_bytes hok
 have hrl := rF_len (r := r)
 have hrn := rF_le hok hlt
 unfold RepS.V
 refine calls_of_W Try.func16 rfl Try.ntmps16 rfl rfl (HP.refl w []) ?_
 refine sr ?_
 refine obxa (fun b2 => ?_)
 refine oas ?_
 refine nx ?_
 refine cp rfl (fun w hp => awake17_calls w) ?_
 refine oas ?_
 refine nq ?_
 refine W.seq ?_
 refine sr ?_
 refine ov (vfa0 2 1) ?_
 refine ov vld ?_
 refine ov vlenS ?_
 refine ov (v2 V_gtr) ?_
 refine omv ?_
 refine WL.splitD rfl (fun g1 => ?_) (fun g1 => ?_)
 · refine on rfl (decide_eq_true g1) ?_
   refine on rfl (decide_eq_true g1) ?_
   refine on rfl (decide_eq_true g1) ?_
   refine ov (V_pick_td rfl g1 rfl) ?_
   refine nq ?_
   refine W.cond_true rfl rfl ?_
   refine sr ?_
   refine omv ?_
   refine oas ?_
   refine nq ?_
   refine W.ret ?_
   refine WQ.then_ret ?_
   refine WQ.ret1 Try.results16 (.tmp rfl) ?_
   intro w' hp; exact ⟨by first | rfl | (simp; done) | (simp [*]; done) | simp_all, hp.forget⟩
 · refine oy rfl (decide_eq_false g1) ?_
   refine omv ?_
   refine oy rfl (decide_eq_false g1) ?_
   refine ov vlenS ?_
   refine oy rfl (decide_eq_false g1) ?_
   refine ov (v2 V_gtr) ?_
   refine ov (V_pick_fd rfl g1 rfl) ?_
   refine nq ?_
   refine W.cond_dec rfl (fun g2 => ?_) (fun g2 => ?_)
   · refine W.seq ?_
     refine W.region ?_
     refine omv ?_
     refine oas ?_
     refine nq ?_
     refine W.ret ?_
     refine WQ.then_ret ?_
     refine WQ.ret1 Try.results16 (.tmp rfl) ?_
     intro w' hp; exact ⟨by first | rfl | (simp; done) | (simp [*]; done) | simp_all, hp.forget⟩
   · refine W.skip ?_
     refine WQ.then ?_
     refine sr ?_
     refine ov (vlda 103) ?_
     refine cgG rfl (fun w hp => repbytes_calls r hok w sw) (fun o28 h28 => ?_)
     refine omv ?_
     refine ov vex ?_
     refine ov vex ?_
     refine oas ?_
     refine oas ?_
     refine nx ?_
     refine ov (vlda 103) ?_
     refine cgG rfl (fun w hp => rrepbytes_calls r hok w sw) (fun o33 h33 => ?_)
     refine omv ?_
     refine ov vex ?_
     refine ov vex ?_
     refine oas ?_
     refine oas ?_
     refine nx ?_
     refine omv ?_
     refine cgG rfl (fun w hp => repread_calls _ _ _ l w sw hb hn (by omega)) (fun o38 h38 => ?_)
     refine omv ?_
     refine ov vex ?_
     refine ov vex ?_
     obtain ⟨ko1, kob1, kc1, kcb1, kt1, ktb1, ktl1, ktc1⟩ := (repRd_ok hb h38).1
     unfold RepS.V
     refine oal [(1, [.int .i64 0]), (1, [.int .i64 0]), (1, [.slice none 0 0]), (32, List.replicate 32 (.int .u8 0)), (1, [.int .i64 0]), (1, [.int .i64 0]), (1, [.int .i64 0]), (1, [.int .i64 0]), (32, List.replicate 32 (.int .u8 0)), (32, List.replicate 32 (.int .u8 0))] (fun b10 => ?_)
     refine osta 103 ?_
     refine oas ?_
     refine nx ?_
     refine omv ?_
     refine cgG rfl (fun w hp => rrepread_calls _ _ _ l w sw hb hn (by omega)) (fun o43 h43 => ?_)
     refine omv ?_
     refine ov vex ?_
     refine ov vex ?_
     obtain ⟨ko2, kob2, kc2, kcb2, kt2, ktb2, ktl2, ktc2⟩ := (repRd_ok hb h43).1
     unfold RepS.V
     refine oal [(1, [.int .i64 0]), (1, [.int .i64 0]), (1, [.slice none 0 0]), (32, List.replicate 32 (.int .u8 0)), (1, [.int .i64 0]), (1, [.int .i64 0]), (1, [.int .i64 0]), (1, [.int .i64 0]), (32, List.replicate 32 (.int .u8 0)), (32, List.replicate 32 (.int .u8 0))] (fun b12 => ?_)
     refine osta 103 ?_
     refine oas ?_
     refine nx ?_
     refine ov (vlda 103) ?_
     refine ov (vlda 103) ?_
     refine cp rfl (fun w hp => same17_calls (repRd o38 l) (repRd o43 l) (repRd_ok hb h38).1 (repRd_ok hb h43).1 w (repRd_sr sw) (repRd_sr sw)) ?_
     refine oas ?_
     refine nx ?_
     refine omv ?_
     refine omv ?_
     refine oy rfl rfl ?_
     refine omv ?_
     refine oy rfl rfl ?_
     refine ov vbs ?_
     refine oy rfl rfl ?_
     refine omv ?_
     refine oy rfl rfl ?_
     refine ov vbs ?_
     refine oy rfl rfl ?_
     refine ov veqS ?_
     refine ov (V_pick_t rfl rfl rfl) ?_
     refine omv ?_
     refine oy rfl (by simp) ?_
     refine omv ?_
     refine oy rfl (by simp) ?_
     refine omv ?_
     refine oy rfl (by simp) ?_
     refine ov (v2 V_eql) ?_
     refine ov (V_pick_t rfl (by simp) rfl) ?_
     refine omv ?_
     refine oy rfl (by simp) ?_
     refine omv ?_
     refine ov (V_pick_t rfl (by simp) rfl) ?_
     refine omv ?_
     refine oy rfl (repRd_same _ _) ?_
     refine omv ?_
     refine oy rfl (repRd_same _ _) ?_
     refine omv ?_
     refine oy rfl (repRd_same _ _) ?_
     refine ov (v2 V_eql) ?_
     refine ov (V_pick_t rfl (repRd_same _ _) rfl) ?_
     refine oas ?_
     refine nq ?_
     refine W.ret ?_
     refine WQ.ret1 Try.results16 (.tmp rfl) ?_
     intro w' hp; exact ⟨by first | rfl | (simp; done) | (simp [*]; done) | simp_all, hp.forget⟩

theorem reportChecks_calls (rl : List Int) (hrl : rl.length = 32) (hrb : bytes rl) (r : RepS) (hok : RepOK r) (now : Int) (w : World) (hT : SrW w 1 r.ta r.tn (iv .u8 r.tl)) :
    Calls Try.prog 17 [AG [(32, iv .u8 rl)], AG r.V, .int .i64 now].toArray w fun e w' => e = .returned (.bool true) ∧ HP w w' [] [] := by
 obtain ⟨ho, hob, hc, hcb, ht, htb, htl, htc⟩ := id hok
 have hlt := SrW.ilen hT
 unfold RepS.V
 refine calls_of_W Try.func17 rfl Try.ntmps17 rfl rfl (HP.refl w []) ?_
 refine sr ?_
 refine obxa (fun b3 => ?_)
 refine obxa (fun b4 => ?_)
 refine oas ?_
 refine nx ?_
 refine cp rfl (fun w hp => awake17_calls w) ?_
 refine oas ?_
 refine nx ?_
 refine ov (vlda 32) ?_
 refine cg rfl (fun w hp => relay17_calls rl hrl w) (fun b11 h11 => ?_)
 refine oas ?_
 refine nq ?_
 refine W.seq ?_
 refine sr ?_
 refine omv ?_
 refine ov (V_eqlP (by kernel_rfl) rfl rfl) ?_
 refine omv ?_
 refine oy rfl rfl ?_
 refine ov (vfa0 2 1) ?_
 refine oy rfl rfl ?_
 refine ov vld ?_
 refine oy rfl rfl ?_
 refine ov vlenS ?_
 refine oy rfl rfl ?_
 refine ov (v2 V_gtr) ?_
 refine ov (V_pick_f rfl rfl rfl) ?_
 refine nq ?_
 refine W.cond_dec rfl (fun g1 => ?_) (fun g1 => ?_)
 · refine W.seq ?_
   refine W.region ?_
   refine omv ?_
   refine omv ?_
   refine oy rfl rfl ?_
   refine omv ?_
   refine oy rfl rfl ?_
   refine ov (V_neqP (by kernel_rfl) rfl rfl) ?_
   refine ov (V_pick_t rfl rfl rfl) ?_
   refine oas ?_
   refine nq ?_
   refine W.ret ?_
   refine WQ.then_ret ?_
   refine WQ.ret1 Try.results17 (.tmp rfl) ?_
   intro w' hp; exact ⟨by first | rfl | (simp; done) | (simp [*]; done) | simp_all, hp.forget⟩
 · refine W.skip ?_
   refine WQ.then ?_
   refine W.seq ?_
   refine dr (.q 0 (.q 1 (.q 2 (.q 3 (.q 4 (.q 6 (.q 7 (.q 8 (.l 5 (.l 9 (.q 10 (.q 11 (.q 12 (.done)))))))))))))) [(b4, _), (b3, _)] ?_
   refine dq rfl (V_move rfl) ?_
   refine dq rfl (V_move rfl) ?_
   refine dy rfl rfl rfl (V_move rfl) ?_
   refine dy rfl rfl rfl (vlda 103) ?_
   refine dy rfl rfl rfl (V_move rfl) ?_
   refine dy rfl rfl rfl (vlda 32) ?_
   refine dy rfl rfl rfl (vlda 103) ?_
   refine dy rfl rfl rfl (V_move rfl) ?_
   refine WD.l ?_
   refine dcg rfl rfl (fun w hp => repchk_calls r now hok b11 5 rl [] 0 w rat (hh hp) Good.nil hrl hrb sw (by omega)) (fun b30 h30 => ?_) (hg := gy rfl rfl)
   refine WD.l ?_
   refine dcp rfl rfl (fun w hp => rrepchk_calls rl 5 r now hrl hrb (by omega) hok w (hp.sold hT (by simp))) ?_ (hg := gy rfl rfl)
   refine dy rfl rfl rfl (v2 V_eql) ?_
   refine dq rfl (V_pick_t rfl rfl rfl) ?_
   refine dq rfl (V_assign rfl) ?_
   refine WD.done ?_
   refine WQ.then ?_
   refine W.ret ?_
   refine WQ.ret1 Try.results17 (.tmp rfl) ?_
   intro w' hp; exact ⟨by first | rfl | (simp; done) | (simp [*]; done) | simp_all, hp.forget⟩

theorem rep_same {r : RepS} (h : rB r = true) (hok : RepOK r) (hl : r.tn = r.tl.length) (o : Gr) : repE (rF r) = 0 ∧ sameB r (repRd o (rF r)) = true := by
  obtain ⟨e1, e2, e3⟩ := rep_ok h hok hl
  rw [rF_t h, e3]
  exact ⟨e1, by simp [sameB, sameSt]⟩
theorem rep_read {l : List Int} (hb : bytes l) (h : repE l = 0) (o : Gr) : rB (repRd o l) = true ∧ rF (repRd o l) = l := by
  have hp : ∃ ll, partL l = some ll ∧ okRows ll = true := by
    have h' := h
    unfold repE at h'
    split at h'
    · cases h'
    · rename_i ll hq
      refine ⟨ll, hq, ?_⟩
      cases hk : okRows ll with
      | true => rfl
      | false => rw [hk] at h'; cases h'
  obtain ⟨ll, hq, hk⟩ := hp
  have hk2 := hk
  simp only [okRows, Bool.and_eq_true, decide_eq_true_eq] at hk2
  obtain ⟨⟨⟨⟨⟨k5, k0⟩, k1⟩, k3⟩, k4⟩, kr⟩ := hk2
  obtain ⟨l0, l1, l2, l3, l4, rfl⟩ := okRows5 k5
  have hr : partR l = [l0, l1, l2, l3, l4] := (part_ok hq).2
  have hj : joinF [l0, l1, l2, l3, l4] = l := join_part hq hb
  have hm := join_mem (ll := [l0, l1, l2, l3, l4]) (by rw [hj]; exact hb)
  have hd : repRd o l = repR (gA o) (gC o) l0 l1 l2 l3 l4 := by unfold repRd; rw [if_pos h, hr]; rfl
  have hB : rB (repRd o l) = true := by rw [hd]; exact kr
  refine ⟨hB, ?_⟩
  simp only [List.getD_cons_zero, List.getD_cons_succ] at k0 k1 k3 k4
  have h4 := read_back (hm l4 (by simp)) k4
  have e4 : bF (readF l4) = l4 := by rw [bF_t h4.1, h4.2]
  have e0 : highF (numH (l0.take 8)) 4 = l0 := by
    have t8 : l0.take 8 = l0 := List.take_of_length_le (by omega)
    have := highF_numH (hm l0 (by simp)) (by omega)
    rw [t8]; rwa [k0] at this
  have e1 : [l1.getD 0 0] = l1 := by
    match l1, k1 with
    | [x], _ => rfl
  rw [rF_t hB, hd]
  show joinF [highF (numH (l0.take 8)) 4, [l1.getD 0 0], l2, l3, bF (readF l4)] = l
  rw [e0, e1, e4, hj]

theorem reportBack_calls (r : RepS) (hok : RepOK r) (A : Option Addr) (n cap : Nat) (l : List Int) (w : World) (hT : SrW w 1 r.ta r.tn (iv .u8 r.tl)) (hs : SrW w 1 A n (iv .u8 l)) (hb : bytes l) (hn : n ≤ cap) :
    Calls Try.prog 18 [AG r.V, .slice A n cap].toArray w fun e w' => e = .returned (.bool true) ∧ HP w w' [] [] := by
 obtain ⟨ho, hob, hc, hcb, ht, htb, htl, htc⟩ := id hok
 have hlt := SrW.ilen hT
 have hl := SrW.ilen hs
 have hall := rF_bytes hok
 have hrl := rF_len (r := r)
 have hrn := rF_le hok hlt
 unfold RepS.V
 refine calls_of_W Try.func18 rfl Try.ntmps18 rfl rfl (HP.refl w []) ?_
 refine sr ?_
 refine obxa (fun b2 => ?_)
 refine oas ?_
 refine nx ?_
 refine cp rfl (fun w hp => awake17_calls w) ?_
 refine oas ?_
 refine nq ?_
 refine W.seq ?_
 refine sr ?_
 refine ov (vfa0 2 1) ?_
 refine ov vld ?_
 refine ov vlenS ?_
 refine ov (v2 V_gtr) ?_
 refine omv ?_
 refine WL.splitD rfl (fun g1 => ?_) (fun g1 => ?_)
 · refine on rfl (decide_eq_true g1) ?_
   refine on rfl (decide_eq_true g1) ?_
   refine on rfl (decide_eq_true g1) ?_
   refine ov (V_pick_td rfl g1 rfl) ?_
   refine nq ?_
   refine W.cond_true rfl rfl ?_
   refine sr ?_
   refine omv ?_
   refine oas ?_
   refine nq ?_
   refine W.ret ?_
   refine WQ.then_ret ?_
   refine WQ.ret1 Try.results18 (.tmp rfl) ?_
   intro w' hp; exact ⟨by first | rfl | (simp; done) | (simp [*]; done) | simp_all, hp.forget⟩
 · refine oy rfl (decide_eq_false g1) ?_
   refine omv ?_
   refine oy rfl (decide_eq_false g1) ?_
   refine ov vlenS ?_
   refine oy rfl (decide_eq_false g1) ?_
   refine ov (v2 V_gtr) ?_
   refine ov (V_pick_fd rfl g1 rfl) ?_
   refine nq ?_
   refine W.cond_dec rfl (fun g2 => ?_) (fun g2 => ?_)
   · refine W.seq ?_
     refine W.region ?_
     refine omv ?_
     refine oas ?_
     refine nq ?_
     refine W.ret ?_
     refine WQ.then_ret ?_
     refine WQ.ret1 Try.results18 (.tmp rfl) ?_
     intro w' hp; exact ⟨by first | rfl | (simp; done) | (simp [*]; done) | simp_all, hp.forget⟩
   · refine W.skip ?_
     refine WQ.then ?_
     refine sr ?_
     refine ov (vlda 103) ?_
     refine cgG rfl (fun w hp => repbytes_calls r hok w sw) (fun o28 h28 => ?_)
     refine omv ?_
     refine ov vex ?_
     refine ov vex ?_
     refine oas ?_
     refine oas ?_
     refine nx ?_
     refine omv ?_
     refine cgG rfl (fun w hp => repread_calls _ _ _ (rF r) w sw hall sc (by omega)) (fun o33 h33 => ?_)
     refine omv ?_
     refine ov vex ?_
     refine ov vex ?_
     obtain ⟨ko1, kob1, kc1, kcb1, kt1, ktb1, ktl1, ktc1⟩ := (repRd_ok hall h33).1
     unfold RepS.V
     refine oal [(1, [.int .i64 0]), (1, [.int .i64 0]), (1, [.slice none 0 0]), (32, List.replicate 32 (.int .u8 0)), (1, [.int .i64 0]), (1, [.int .i64 0]), (1, [.int .i64 0]), (1, [.int .i64 0]), (32, List.replicate 32 (.int .u8 0)), (32, List.replicate 32 (.int .u8 0))] (fun b8 => ?_)
     refine osta 103 ?_
     refine oas ?_
     refine nx ?_
     refine ov (vlda 103) ?_
     refine ov (vlda 103) ?_
     refine cp rfl (fun w hp => same17_calls r (repRd o33 (rF r)) hok (repRd_ok hall h33).1 w sw (repRd_sr sw)) ?_
     refine oas ?_
     refine nq ?_
     refine W.seq ?_
     refine W.seq ?_
     by_cases hri : rB r = true
     · refine W.region ?_
       refine omv ?_
       refine ov (v2 V_eql) ?_
       refine omv ?_
       refine oy rfl (by rw [if_pos hri]; rfl) ?_
       refine omv ?_
       refine oy rfl (by rw [if_pos hri]; rfl) ?_
       refine ov (v2 V_neq) ?_
       refine oy rfl (by rw [if_pos hri]; rfl) ?_
       refine omv ?_
       refine oy rfl (decide_eq_false (by simp [(rep_same hri hok hlt o33).1])) ?_
       refine omv ?_
       refine oy rfl (decide_eq_false (by simp [(rep_same hri hok hlt o33).1])) ?_
       refine ov vnot ?_
       refine oy rfl (by rw [if_pos hri]; rfl) ?_
       refine ov (V_pick_f rfl (decide_eq_false (by simp [(rep_same hri hok hlt o33).1])) rfl) ?_
       refine ov (V_pick_t rfl (by rw [if_pos hri]; rfl) rfl) ?_
       refine nq ?_
       refine W.cond_false rfl (by rw [(rep_same hri hok hlt o33).2]; rfl) ?_
       refine W.skip ?_
       refine WQ.then ?_
       refine sr ?_
       refine omv ?_
       refine cgG rfl (fun w hp => repread_calls _ _ _ l w sw hb hn (by omega)) (fun o51 h51 => ?_)
       refine omv ?_
       refine ov vex ?_
       refine ov vex ?_
       obtain ⟨ko2, kob2, kc2, kcb2, kt2, ktb2, ktl2, ktc2⟩ := (repRd_ok hb h51).1
       unfold RepS.V
       refine oal [(1, [.int .i64 0]), (1, [.int .i64 0]), (1, [.slice none 0 0]), (32, List.replicate 32 (.int .u8 0)), (1, [.int .i64 0]), (1, [.int .i64 0]), (1, [.int .i64 0]), (1, [.int .i64 0]), (32, List.replicate 32 (.int .u8 0)), (32, List.replicate 32 (.int .u8 0))] (fun b11 => ?_)
       refine osta 103 ?_
       refine oas ?_
       refine nx ?_
       refine ov (vlda 103) ?_
       refine cgG rfl (fun w hp => repbytes_calls (repRd o51 l) (repRd_ok hb h51).1 w (repRd_sr sw)) (fun o56 h56 => ?_)
       refine omv ?_
       refine ov vex ?_
       refine ov vex ?_
       refine oas ?_
       refine oas ?_
       refine nq ?_
       refine W.seq ?_
       by_cases hre : repE l = 0
       · have hbk := (rep_read hb hre o51).2
         have hrl2 := rF_len (r := repRd o51 l)
         have hall2 := rF_bytes (repRd_ok hb h51).1
         refine W.region ?_
         refine omv ?_
         refine omv ?_
         refine oy rfl rfl ?_
         refine omv ?_
         refine oy rfl rfl ?_
         refine ov (v2 V_neq) ?_
         refine oy rfl rfl ?_
         refine omv ?_
         refine oy rfl (decide_eq_false (by simpa using hre)) ?_
         refine omv ?_
         refine oy rfl (decide_eq_false (by simpa using hre)) ?_
         refine ov (v2 V_eql) ?_
         refine oy rfl (decide_eq_false (by simpa using hre)) ?_
         refine omv ?_
         refine oy rfl (by rw [(rep_read hb hre o51).1]; rfl) ?_
         refine omv ?_
         refine oy rfl (by rw [(rep_read hb hre o51).1]; rfl) ?_
         refine ov vbs ?_
         refine oy rfl (by rw [(rep_read hb hre o51).1]; rfl) ?_
         refine omv ?_
         refine oy rfl (by rw [(rep_read hb hre o51).1]; rfl) ?_
         refine ov vbs ?_
         refine oy rfl (by rw [(rep_read hb hre o51).1]; rfl) ?_
         refine ov veqS ?_
         refine oy rfl (decide_eq_false (by simpa using hre)) ?_
         refine ov (V_pick_t rfl (by rw [(rep_read hb hre o51).1]; rfl) rfl) ?_
         refine oy rfl rfl ?_
         refine ov (V_pick_f rfl (decide_eq_false (by simpa using hre)) rfl) ?_
         refine ov (V_pick_t rfl rfl rfl) ?_
         refine oas ?_
         refine nq ?_
         refine W.ret ?_
         refine WQ.ret1 Try.results18 (.tmp rfl) ?_
         intro w' hp; exact ⟨by first | rfl | (simp; done) | (simp [*]; done) | simp_all, hp.forget⟩
       · have hrl2 := rF_len (r := repRd o51 l)
         have hall2 := rF_bytes (repRd_ok hb h51).1
         refine W.region ?_
         refine omv ?_
         refine omv ?_
         refine oy rfl rfl ?_
         refine omv ?_
         refine oy rfl rfl ?_
         refine ov (v2 V_neq) ?_
         refine oy rfl rfl ?_
         refine omv ?_
         refine on rfl (decide_eq_true (by simpa using hre)) ?_
         refine on rfl (decide_eq_true (by simpa using hre)) ?_
         refine on rfl (decide_eq_true (by simpa using hre)) ?_
         refine onu rfl ?_
         refine onu rfl ?_
         refine onu rfl ?_
         refine onu rfl ?_
         refine onu rfl ?_
         refine on rfl (decide_eq_true (by simpa using hre)) ?_
         refine oy rfl rfl ?_
         refine ov (V_pick_t rfl (decide_eq_true (by simpa using hre)) rfl) ?_
         refine ov (V_pick_t rfl rfl rfl) ?_
         refine oas ?_
         refine nq ?_
         refine W.ret ?_
         refine WQ.ret1 Try.results18 (.tmp rfl) ?_
         intro w' hp; exact ⟨by first | rfl | (simp; done) | (simp [*]; done) | simp_all, hp.forget⟩
     · refine W.region ?_
       refine omv ?_
       refine ov (v2 V_eql) ?_
       refine omv ?_
       refine on rfl (by rw [if_neg hri]; rfl) ?_
       refine on rfl (by rw [if_neg hri]; rfl) ?_
       refine on rfl (by rw [if_neg hri]; rfl) ?_
       refine onu rfl ?_
       refine onu rfl ?_
       refine on rfl (by rw [if_neg hri]; rfl) ?_
       refine ov (V_pick_f rfl (by rw [if_neg hri]; rfl) rfl) ?_
       refine nq ?_
       refine W.cond_false rfl rfl ?_
       refine W.skip ?_
       refine WQ.then ?_
       refine sr ?_
       refine omv ?_
       refine cgG rfl (fun w hp => repread_calls _ _ _ l w sw hb hn (by omega)) (fun o51 h51 => ?_)
       refine omv ?_
       refine ov vex ?_
       refine ov vex ?_
       obtain ⟨ko2, kob2, kc2, kcb2, kt2, ktb2, ktl2, ktc2⟩ := (repRd_ok hb h51).1
       unfold RepS.V
       refine oal [(1, [.int .i64 0]), (1, [.int .i64 0]), (1, [.slice none 0 0]), (32, List.replicate 32 (.int .u8 0)), (1, [.int .i64 0]), (1, [.int .i64 0]), (1, [.int .i64 0]), (1, [.int .i64 0]), (32, List.replicate 32 (.int .u8 0)), (32, List.replicate 32 (.int .u8 0))] (fun b11 => ?_)
       refine osta 103 ?_
       refine oas ?_
       refine nx ?_
       refine ov (vlda 103) ?_
       refine cgG rfl (fun w hp => repbytes_calls (repRd o51 l) (repRd_ok hb h51).1 w (repRd_sr sw)) (fun o56 h56 => ?_)
       refine omv ?_
       refine ov vex ?_
       refine ov vex ?_
       refine oas ?_
       refine oas ?_
       refine nq ?_
       refine W.seq ?_
       by_cases hre : repE l = 0
       · have hbk := (rep_read hb hre o51).2
         have hrl2 := rF_len (r := repRd o51 l)
         have hall2 := rF_bytes (repRd_ok hb h51).1
         refine W.region ?_
         refine omv ?_
         refine omv ?_
         refine oy rfl rfl ?_
         refine omv ?_
         refine oy rfl rfl ?_
         refine ov (v2 V_neq) ?_
         refine oy rfl rfl ?_
         refine omv ?_
         refine oy rfl (decide_eq_false (by simpa using hre)) ?_
         refine omv ?_
         refine oy rfl (decide_eq_false (by simpa using hre)) ?_
         refine ov (v2 V_eql) ?_
         refine oy rfl (decide_eq_false (by simpa using hre)) ?_
         refine omv ?_
         refine oy rfl (by rw [(rep_read hb hre o51).1]; rfl) ?_
         refine omv ?_
         refine oy rfl (by rw [(rep_read hb hre o51).1]; rfl) ?_
         refine ov vbs ?_
         refine oy rfl (by rw [(rep_read hb hre o51).1]; rfl) ?_
         refine omv ?_
         refine oy rfl (by rw [(rep_read hb hre o51).1]; rfl) ?_
         refine ov vbs ?_
         refine oy rfl (by rw [(rep_read hb hre o51).1]; rfl) ?_
         refine ov veqS ?_
         refine oy rfl (decide_eq_false (by simpa using hre)) ?_
         refine ov (V_pick_t rfl (by rw [(rep_read hb hre o51).1]; rfl) rfl) ?_
         refine oy rfl rfl ?_
         refine ov (V_pick_f rfl (decide_eq_false (by simpa using hre)) rfl) ?_
         refine ov (V_pick_t rfl rfl rfl) ?_
         refine oas ?_
         refine nq ?_
         refine W.ret ?_
         refine WQ.ret1 Try.results18 (.tmp rfl) ?_
         intro w' hp; exact ⟨by first | rfl | (simp; done) | (simp [*]; done) | simp_all, hp.forget⟩
       · have hrl2 := rF_len (r := repRd o51 l)
         have hall2 := rF_bytes (repRd_ok hb h51).1
         refine W.region ?_
         refine omv ?_
         refine omv ?_
         refine oy rfl rfl ?_
         refine omv ?_
         refine oy rfl rfl ?_
         refine ov (v2 V_neq) ?_
         refine oy rfl rfl ?_
         refine omv ?_
         refine on rfl (decide_eq_true (by simpa using hre)) ?_
         refine on rfl (decide_eq_true (by simpa using hre)) ?_
         refine on rfl (decide_eq_true (by simpa using hre)) ?_
         refine onu rfl ?_
         refine onu rfl ?_
         refine onu rfl ?_
         refine onu rfl ?_
         refine onu rfl ?_
         refine on rfl (decide_eq_true (by simpa using hre)) ?_
         refine oy rfl rfl ?_
         refine ov (V_pick_t rfl (decide_eq_true (by simpa using hre)) rfl) ?_
         refine ov (V_pick_t rfl rfl rfl) ?_
         refine oas ?_
         refine nq ?_
         refine W.ret ?_
         refine WQ.ret1 Try.results18 (.tmp rfl) ?_
         intro w' hp; exact ⟨by first | rfl | (simp; done) | (simp [*]; done) | simp_all, hp.forget⟩

theorem reportTurned_calls (rl : List Int) (hrl : rl.length = 32) (hrb : bytes rl) (A : Option Addr) (n cap : Nat) (l : List Int) (xl : List Int) (hx : xl.length = 3) (hxw : ∀ c ∈ xl, (Lit.int .i64 c).wf = true) (w : World) (hs : SrW w 1 A n (iv .u8 l)) (hb : bytes l) (hn : n ≤ cap) :
    Calls Try.prog 19 [AG [(32, iv .u8 rl)], .slice A n cap, AG [(3, iv .i64 xl)]].toArray w fun e w' => e = .returned (.bool true) ∧ HP w w' [] [] := by
 have hl := SrW.ilen hs
 have hxb := wf_i64 (getD_all hxw (show 1 < xl.length by omega))
 refine calls_of_W Try.func19 rfl Try.ntmps19 rfl rfl (HP.refl w []) ?_
 refine sr ?_
 refine obxa (fun b3 => ?_)
 refine obxa (fun b5 => ?_)
 refine oas ?_
 refine nx ?_
 refine cp rfl (fun w hp => awake17_calls w) ?_
 refine oas ?_
 refine nx ?_
 refine ov (vlda 32) ?_
 refine cg rfl (fun w hp => relay17_calls rl hrl w) (fun b15 h15 => ?_)
 refine oas ?_
 refine nq ?_
 refine W.seq ?_
 refine sr ?_
 refine omv ?_
 refine ov (V_eqlP (by kernel_rfl) rfl rfl) ?_
 refine omv ?_
 refine oy rfl rfl ?_
 refine omv ?_
 refine oy rfl rfl ?_
 refine ov vlenS ?_
 refine oy rfl rfl ?_
 refine ov (v2 V_gtr) ?_
 refine ov (V_pick_f rfl rfl rfl) ?_
 refine omv ?_
 refine WL.splitD rfl (fun g1 => ?_) (fun g1 => ?_)
 · refine on rfl (decide_eq_true g1) ?_
   refine on rfl (decide_eq_true g1) ?_
   refine on rfl (decide_eq_true g1) ?_
   refine ov (V_pick_td rfl g1 rfl) ?_
   refine omv ?_
   refine on rfl rfl ?_
   refine on rfl rfl ?_
   refine on rfl rfl ?_
   refine ov (V_pick_t rfl rfl rfl) ?_
   refine omv ?_
   refine on rfl rfl ?_
   refine on rfl rfl ?_
   refine on rfl rfl ?_
   refine ov (V_pick_t rfl rfl rfl) ?_
   refine omv ?_
   refine on rfl rfl ?_
   refine on rfl rfl ?_
   refine on rfl rfl ?_
   refine ov (V_pick_t rfl rfl rfl) ?_
   refine omv ?_
   refine on rfl rfl ?_
   refine on rfl rfl ?_
   refine on rfl rfl ?_
   refine ov (V_pick_t rfl rfl rfl) ?_
   refine nq ?_
   refine W.cond_true rfl rfl ?_
   refine sr ?_
   refine omv ?_
   refine omv ?_
   refine oy rfl rfl ?_
   refine omv ?_
   refine oy rfl rfl ?_
   refine ov (V_neqP (by kernel_rfl) rfl rfl) ?_
   refine ov (V_pick_t rfl rfl rfl) ?_
   refine oas ?_
   refine nq ?_
   refine W.ret ?_
   refine WQ.then_ret ?_
   refine WQ.ret1 Try.results19 (.tmp rfl) ?_
   intro w' hp; exact ⟨by first | rfl | (simp; done) | (simp [*]; done) | (subst h58; exact congrArg (fun b => Ending.returned (.bool b)) (decide_eq_true (made_early hm rfl (by omega) (by omega)))), hp.forget⟩
 · refine oy rfl (decide_eq_false g1) ?_
   refine ov (viA0 (j := 0) 3) ?_
   refine oy rfl (decide_eq_false g1) ?_
   first | refine ov vldI ?_ | refine ov vld ?_
   refine oy rfl (decide_eq_false g1) ?_
   refine ov (v2 V_lss) ?_
   refine ov (V_pick_fd rfl g1 rfl) ?_
   refine omv ?_
   refine WL.splitD rfl (fun g2 => ?_) (fun g2 => ?_)
   · refine on rfl (decide_eq_true g2) ?_
     refine on rfl (decide_eq_true g2) ?_
     refine on rfl (decide_eq_true g2) ?_
     refine ov (V_pick_td rfl g2 rfl) ?_
     refine omv ?_
     refine on rfl rfl ?_
     refine on rfl rfl ?_
     refine on rfl rfl ?_
     refine ov (V_pick_t rfl rfl rfl) ?_
     refine omv ?_
     refine on rfl rfl ?_
     refine on rfl rfl ?_
     refine on rfl rfl ?_
     refine ov (V_pick_t rfl rfl rfl) ?_
     refine omv ?_
     refine on rfl rfl ?_
     refine on rfl rfl ?_
     refine on rfl rfl ?_
     refine ov (V_pick_t rfl rfl rfl) ?_
     refine nq ?_
     refine W.cond_true rfl rfl ?_
     refine sr ?_
     refine omv ?_
     refine omv ?_
     refine oy rfl rfl ?_
     refine omv ?_
     refine oy rfl rfl ?_
     refine ov (V_neqP (by kernel_rfl) rfl rfl) ?_
     refine ov (V_pick_t rfl rfl rfl) ?_
     refine oas ?_
     refine nq ?_
     refine W.ret ?_
     refine WQ.then_ret ?_
     refine WQ.ret1 Try.results19 (.tmp rfl) ?_
     intro w' hp; exact ⟨by first | rfl | (simp; done) | (simp [*]; done) | (subst h58; exact congrArg (fun b => Ending.returned (.bool b)) (decide_eq_true (made_early hm rfl (by omega) (by omega)))), hp.forget⟩
   · refine oy rfl (decide_eq_false g2) ?_
     refine ov (viA0 (j := 0) 3) ?_
     refine oy rfl (decide_eq_false g2) ?_
     first | refine ov vldI ?_ | refine ov vld ?_
     refine oy rfl (decide_eq_false g2) ?_
     refine ov (v2 V_gtr) ?_
     refine ov (V_pick_fd rfl g2 rfl) ?_
     refine omv ?_
     refine WL.splitD rfl (fun g3 => ?_) (fun g3 => ?_)
     · refine on rfl (decide_eq_true g3) ?_
       refine on rfl (decide_eq_true g3) ?_
       refine on rfl (decide_eq_true g3) ?_
       refine ov (V_pick_td rfl g3 rfl) ?_
       refine omv ?_
       refine on rfl rfl ?_
       refine on rfl rfl ?_
       refine on rfl rfl ?_
       refine ov (V_pick_t rfl rfl rfl) ?_
       refine omv ?_
       refine on rfl rfl ?_
       refine on rfl rfl ?_
       refine on rfl rfl ?_
       refine ov (V_pick_t rfl rfl rfl) ?_
       refine nq ?_
       refine W.cond_true rfl rfl ?_
       refine sr ?_
       refine omv ?_
       refine omv ?_
       refine oy rfl rfl ?_
       refine omv ?_
       refine oy rfl rfl ?_
       refine ov (V_neqP (by kernel_rfl) rfl rfl) ?_
       refine ov (V_pick_t rfl rfl rfl) ?_
       refine oas ?_
       refine nq ?_
       refine W.ret ?_
       refine WQ.then_ret ?_
       refine WQ.ret1 Try.results19 (.tmp rfl) ?_
       intro w' hp; exact ⟨by first | rfl | (simp; done) | (simp [*]; done) | (subst h58; exact congrArg (fun b => Ending.returned (.bool b)) (decide_eq_true (made_early hm rfl (by omega) (by omega)))), hp.forget⟩
     · refine oy rfl (decide_eq_false g3) ?_
       refine ov (viA0 (j := 1) 3) ?_
       refine oy rfl (decide_eq_false g3) ?_
       first | refine ov vldI ?_ | refine ov vld ?_
       refine oy rfl (decide_eq_false g3) ?_
       refine ov (v2 V_lss) ?_
       refine ov (V_pick_fd rfl g3 rfl) ?_
       refine omv ?_
       refine WL.splitD rfl (fun g4 => ?_) (fun g4 => ?_)
       · refine on rfl (decide_eq_true g4) ?_
         refine on rfl (decide_eq_true g4) ?_
         refine on rfl (decide_eq_true g4) ?_
         refine ov (V_pick_td rfl g4 rfl) ?_
         refine omv ?_
         refine on rfl rfl ?_
         refine on rfl rfl ?_
         refine on rfl rfl ?_
         refine ov (V_pick_t rfl rfl rfl) ?_
         refine nq ?_
         refine W.cond_true rfl rfl ?_
         refine sr ?_
         refine omv ?_
         refine omv ?_
         refine oy rfl rfl ?_
         refine omv ?_
         refine oy rfl rfl ?_
         refine ov (V_neqP (by kernel_rfl) rfl rfl) ?_
         refine ov (V_pick_t rfl rfl rfl) ?_
         refine oas ?_
         refine nq ?_
         refine W.ret ?_
         refine WQ.then_ret ?_
         refine WQ.ret1 Try.results19 (.tmp rfl) ?_
         intro w' hp; exact ⟨by first | rfl | (simp; done) | (simp [*]; done) | (subst h58; exact congrArg (fun b => Ending.returned (.bool b)) (decide_eq_true (made_early hm rfl (by omega) (by omega)))), hp.forget⟩
       · refine oy rfl (decide_eq_false g4) ?_
         refine ov (viA0 (j := 2) 3) ?_
         refine oy rfl (decide_eq_false g4) ?_
         first | refine ov vldI ?_ | refine ov vld ?_
         refine oy rfl (decide_eq_false g4) ?_
         refine ov (v2 V_lss) ?_
         refine ov (V_pick_fd rfl g4 rfl) ?_
         refine omv ?_
         refine WL.splitD rfl (fun g5 => ?_) (fun g5 => ?_)
         · refine on rfl (decide_eq_true g5) ?_
           refine on rfl (decide_eq_true g5) ?_
           refine on rfl (decide_eq_true g5) ?_
           refine ov (V_pick_td rfl g5 rfl) ?_
           refine nq ?_
           refine W.cond_true rfl rfl ?_
           refine sr ?_
           refine omv ?_
           refine omv ?_
           refine oy rfl rfl ?_
           refine omv ?_
           refine oy rfl rfl ?_
           refine ov (V_neqP (by kernel_rfl) rfl rfl) ?_
           refine ov (V_pick_t rfl rfl rfl) ?_
           refine oas ?_
           refine nq ?_
           refine W.ret ?_
           refine WQ.then_ret ?_
           refine WQ.ret1 Try.results19 (.tmp rfl) ?_
           intro w' hp; exact ⟨by first | rfl | (simp; done) | (simp [*]; done) | (subst h58; exact congrArg (fun b => Ending.returned (.bool b)) (decide_eq_true (made_early hm rfl (by omega) (by omega)))), hp.forget⟩
         · refine oy rfl (decide_eq_false g5) ?_
           refine ov (viA0 (j := 2) 3) ?_
           refine oy rfl (decide_eq_false g5) ?_
           first | refine ov vldI ?_ | refine ov vld ?_
           refine oy rfl (decide_eq_false g5) ?_
           refine ov (v2 V_gtr) ?_
           refine ov (V_pick_fd rfl g5 rfl) ?_
           refine nq ?_
           refine W.cond_dec rfl (fun g6 => ?_) (fun g6 => ?_)
           · refine W.seq ?_
             refine W.region ?_
             refine omv ?_
             refine omv ?_
             refine oy rfl rfl ?_
             refine omv ?_
             refine oy rfl rfl ?_
             refine ov (V_neqP (by kernel_rfl) rfl rfl) ?_
             refine ov (V_pick_t rfl rfl rfl) ?_
             refine oas ?_
             refine nq ?_
             refine W.ret ?_
             refine WQ.then_ret ?_
             refine WQ.ret1 Try.results19 (.tmp rfl) ?_
             intro w' hp; exact ⟨by first | rfl | (simp; done) | (simp [*]; done) | (subst h58; exact congrArg (fun b => Ending.returned (.bool b)) (decide_eq_true (made_early hm rfl (by omega) (by omega)))), hp.forget⟩
           · refine W.skip ?_
             refine WQ.then ?_
             refine W.seq ?_
             have hT0 : timeB (xl.getD 0 0) = true := by simp only [timeB, Bool.and_eq_true, decide_eq_true_eq]; omega
             have hT2 : timeB (xl.getD 0 0 + xl.getD 2 0) = true := by simp only [timeB, Bool.and_eq_true, decide_eq_true_eq]; omega
             have hm : mayB (madeEnv ([2] ++ List.replicate (32 - 1) 0) 4 5 l) (xl.getD 0 0) = true := made_may hT0 (by omega) (by omega)
             have hand := andI_31 (x := xl.getD 1 0) (by omega) (by omega)
             have hq32 : (xl.getD 1 0 % 32).toNat < 32 := by omega
             refine W.region ?_
             refine ov (vlda 32) ?_
             refine ov (vbI 32 .u8 1 [2]) ?_
             refine ov (viA0 (j := 0) 3) ?_
             first | refine ov vldI ?_ | refine ov vld ?_
             refine omv ?_
             refine cg rfl (fun w hp => made17_S rl ([2] ++ List.replicate (32 - 1) 0) 3 4 5 (xl.getD 0 0) hrl hrb (by simp) sc (by omega) (by omega) _ _ _ l w sw hb hn (by omega)) (fun b58 h58 => ?_)
             have hMr : rB (⟨3, 5, A, n, cap, l, ([2] ++ List.replicate (32 - 1) 0), b58⟩ : RepS) = true := by subst h58; exact made_rB hm rfl (by omega)
             have hMok : RepOK (⟨3, 5, A, n, cap, l, ([2] ++ List.replicate (32 - 1) 0), b58⟩ : RepS) := by subst h58; exact made_ok (by simp) sc hb hn
             have hSc : b58.commit.length = 32 := hMok.2.2.1
             have hSt : b58.tag.length = 32 := hMok.2.2.2.2.1
             have hStb : bytes b58.tag := hMok.2.2.2.2.2.1
             have hTok : RepOK (turnR (⟨3, 5, A, n, cap, l, ([2] ++ List.replicate (32 - 1) 0), b58⟩ : RepS) (xl.getD 1 0 % 32).toNat) := ⟨hMok.1, hMok.2.1, hSc, hMok.2.2.2.1, by simp [turnR, turned, hSt], bytes_set hStb (xor_bd (hStb.get _)), hMok.2.2.2.2.2.2.1, hMok.2.2.2.2.2.2.2⟩
             have hBok : RepOK (byR (⟨3, 5, A, n, cap, l, ([2] ++ List.replicate (32 - 1) 0), b58⟩ : RepS) 4) := hMok
             unfold RepS.V
             refine oal [(1, [.int .i64 0]), (1, [.int .i64 0]), (1, [.slice none 0 0]), (32, List.replicate 32 (.int .u8 0)), (1, [.int .i64 0]), (1, [.int .i64 0]), (1, [.int .i64 0]), (1, [.int .i64 0]), (32, List.replicate 32 (.int .u8 0)), (32, List.replicate 32 (.int .u8 0))] (fun b9 => ?_)
             refine osta 103 ?_
             refine nx ?_
             refine ov (vlda 103) ?_
             refine oal [(1, [.int .i64 0]), (1, [.int .i64 0]), (1, [.slice none 0 0]), (32, List.replicate 32 (.int .u8 0)), (1, [.int .i64 0]), (1, [.int .i64 0]), (1, [.int .i64 0]), (1, [.int .i64 0]), (32, List.replicate 32 (.int .u8 0)), (32, List.replicate 32 (.int .u8 0))] (fun b10 => ?_)
             refine osta 103 ?_
             refine nx ?_
             refine ov (viA0 (j := 1) 3) ?_
             first | refine ov vldI ?_ | refine ov vld ?_
             refine ov (v2 V_and) ?_
             refine ov (vfa0 35 68) ?_
             refine ov (vfa 36 32) ?_
             rw [hand]
             first | refine ov (viAP 32) ?_ | refine ov (viAPZ 32) ?_
             refine ov (vldP 71) ?_
             refine ov (v2 V_xor) ?_
             refine ov (vfa0 35 68) ?_
             refine ov (vfa 36 32) ?_
             first | refine ov (viAP 32) ?_ | refine ov (viAPZ 32) ?_
             refine ostP 71 ?_
             refine nx ?_
             refine ov (vlda 103) ?_
             refine oal [(1, [.int .i64 0]), (1, [.int .i64 0]), (1, [.slice none 0 0]), (32, List.replicate 32 (.int .u8 0)), (1, [.int .i64 0]), (1, [.int .i64 0]), (1, [.int .i64 0]), (1, [.int .i64 0]), (32, List.replicate 32 (.int .u8 0)), (32, List.replicate 32 (.int .u8 0))] (fun b11 => ?_)
             refine osta 103 ?_
             refine nx ?_
             refine ov (vfa0 1 1) ?_
             refine ost ?_
             refine nx ?_
             refine oas ?_
             refine nq ?_
             refine W.seq ?_
             refine sr ?_
             refine ov (viA0 (j := 2) 3) ?_
             first | refine ov vldI ?_ | refine ov vld ?_
             refine ov (v2 V_gtr) ?_
             refine nq ?_
             refine W.cond_dec rfl (fun g7 => ?_) (fun g7 => ?_)
             · refine W.region ?_
               refine oas ?_
               refine nx ?_
               refine omv ?_
               refine omv ?_
               refine oy rfl rfl ?_
               refine omv ?_
               refine oy rfl rfl ?_
               refine ov (vlda 103) ?_
               refine oy rfl rfl ?_
               refine ov (viA0 (j := 0) 3) ?_
               refine oy rfl rfl ?_
               first | refine ov vldI ?_ | refine ov vld ?_
               refine oy rfl rfl ?_
               refine ov (viA0 (j := 2) 3) ?_
               refine oy rfl rfl ?_
               first | refine ov vldI ?_ | refine ov vld ?_
               refine oy rfl rfl ?_
               first | refine ov vaddN ?_ | refine ov vadd ?_
               refine oy rfl rfl ?_
               refine cg rfl (fun w hp => repchk_calls (⟨3, 5, A, n, cap, l, ([2] ++ List.replicate (32 - 1) 0), b58⟩ : RepS) (xl.getD 0 0 + xl.getD 2 0) hMok b15 5 rl [] 0 w rat (hh hp) Good.nil hrl hrb sw (by omega)) (fun b85 h85 => ?_)
               refine oy rfl rfl ?_
               refine omv ?_
               refine oy rfl rfl ?_
               refine ov (v2 V_eql) ?_
               refine ov (V_pick_t rfl rfl rfl) ?_
               refine omv ?_
               refine oy rfl (decide_eq_true (by subst h58; exact (made_chk hm rfl (by omega) hT2).trans (by first | exact if_pos (by omega) | exact if_neg (by omega)))) ?_
               refine omv ?_
               refine oy rfl (decide_eq_true (by subst h58; exact (made_chk hm rfl (by omega) hT2).trans (by first | exact if_pos (by omega) | exact if_neg (by omega)))) ?_
               refine ov (vlda 103) ?_
               refine oy rfl (decide_eq_true (by subst h58; exact (made_chk hm rfl (by omega) hT2).trans (by first | exact if_pos (by omega) | exact if_neg (by omega)))) ?_
               refine ov (viA0 (j := 0) 3) ?_
               refine oy rfl (decide_eq_true (by subst h58; exact (made_chk hm rfl (by omega) hT2).trans (by first | exact if_pos (by omega) | exact if_neg (by omega)))) ?_
               first | refine ov vldI ?_ | refine ov vld ?_
               refine oy rfl (decide_eq_true (by subst h58; exact (made_chk hm rfl (by omega) hT2).trans (by first | exact if_pos (by omega) | exact if_neg (by omega)))) ?_
               refine cg rfl (fun w hp => repchk_calls (turnR (⟨3, 5, A, n, cap, l, ([2] ++ List.replicate (32 - 1) 0), b58⟩ : RepS) (xl.getD 1 0 % 32).toNat) (xl.getD 0 0) hTok b15 5 rl b85.1 b85.2 w rat (hh hp) h85 hrl hrb sw (by omega)) (fun b94 h94 => ?_)
               refine oy rfl (decide_eq_true (by subst h58; exact (made_chk hm rfl (by omega) hT2).trans (by first | exact if_pos (by omega) | exact if_neg (by omega)))) ?_
               refine ov (v2 V_eql) ?_
               refine ov (V_pick_t rfl (decide_eq_true (by subst h58; exact (made_chk hm rfl (by omega) hT2).trans (by first | exact if_pos (by omega) | exact if_neg (by omega)))) rfl) ?_
               refine omv ?_
               refine oy rfl (decide_eq_true (by subst h58; exact made_turn hm rfl (by omega) hT0 hq32)) ?_
               refine omv ?_
               refine oy rfl (decide_eq_true (by subst h58; exact made_turn hm rfl (by omega) hT0 hq32)) ?_
               refine ov (vlda 103) ?_
               refine oy rfl (decide_eq_true (by subst h58; exact made_turn hm rfl (by omega) hT0 hq32)) ?_
               refine ov (viA0 (j := 0) 3) ?_
               refine oy rfl (decide_eq_true (by subst h58; exact made_turn hm rfl (by omega) hT0 hq32)) ?_
               first | refine ov vldI ?_ | refine ov vld ?_
               refine oy rfl (decide_eq_true (by subst h58; exact made_turn hm rfl (by omega) hT0 hq32)) ?_
               refine cg rfl (fun w hp => repchk_calls (byR (⟨3, 5, A, n, cap, l, ([2] ++ List.replicate (32 - 1) 0), b58⟩ : RepS) 4) (xl.getD 0 0) hBok b15 5 rl b94.1 b94.2 w rat (hh hp) h94 hrl hrb sw (by omega)) (fun b102 h102 => ?_)
               refine oy rfl (decide_eq_true (by subst h58; exact made_turn hm rfl (by omega) hT0 hq32)) ?_
               refine ov (v2 V_eql) ?_
               refine ov (V_pick_t rfl (decide_eq_true (by subst h58; exact made_turn hm rfl (by omega) hT0 hq32)) rfl) ?_
               refine omv ?_
               refine oy rfl (decide_eq_true (by subst h58; exact made_by hm (by omega))) ?_
               refine ov (viA0 (j := 0) 3) ?_
               refine oy rfl (decide_eq_true (by subst h58; exact made_by hm (by omega))) ?_
               first | refine ov vldI ?_ | refine ov vld ?_
               refine oy rfl (decide_eq_true (by subst h58; exact made_by hm (by omega))) ?_
               refine ov (v2 V_eql) ?_
               refine oy rfl (decide_eq_true (by subst h58; exact made_by hm (by omega))) ?_
               refine omv ?_
               refine WL.splitD rfl (fun g8 => ?_) (fun g8 => ?_)
               · refine on rfl (decide_eq_true g8) ?_
                 refine on rfl (decide_eq_true g8) ?_
                 refine on rfl (decide_eq_true g8) ?_
                 refine on rfl (decide_eq_true g8) ?_
                 refine on rfl (decide_eq_true g8) ?_
                 refine on rfl (decide_eq_true g8) ?_
                 refine on rfl (decide_eq_true g8) ?_
                 refine oy rfl (decide_eq_true (by subst h58; exact made_by hm (by omega))) ?_
                 refine ov (V_pick_td rfl g8 rfl) ?_
                 refine ov (V_pick_t rfl (decide_eq_true (by subst h58; exact made_by hm (by omega))) rfl) ?_
                 refine oas ?_
                 refine nq ?_
                 refine W.ret ?_
                 refine WQ.ret1 Try.results19 (.tmp rfl) ?_
                 intro w' hp; exact ⟨by first | rfl | (simp; done) | (simp [*]; done) | (subst h58; exact congrArg (fun b => Ending.returned (.bool b)) (decide_eq_true (made_early hm rfl (by omega) (by omega)))), hp.forget⟩
               · refine oy rfl (decide_eq_false g8) ?_
                 refine omv ?_
                 refine oy rfl (decide_eq_false g8) ?_
                 refine ov (vlda 103) ?_
                 refine oy rfl (decide_eq_false g8) ?_
                 refine ov (viA0 (j := 0) 3) ?_
                 refine oy rfl (decide_eq_false g8) ?_
                 first | refine ov vldI ?_ | refine ov vld ?_
                 refine oy rfl (decide_eq_false g8) ?_
                 first | refine ov vsubN ?_ | refine ov vsub ?_
                 refine oy rfl (decide_eq_false g8) ?_
                 refine cg rfl (fun w hp => repchk_calls (⟨3, 5, A, n, cap, l, ([2] ++ List.replicate (32 - 1) 0), b58⟩ : RepS) (xl.getD 0 0 - 1) hMok b15 5 rl b102.1 b102.2 w rat (hh hp) h102 hrl hrb sw (by omega)) (fun b115 h115 => ?_)
                 refine oy rfl (decide_eq_false g8) ?_
                 refine ov (v2 V_eql) ?_
                 refine oy rfl (decide_eq_true (by subst h58; exact made_by hm (by omega))) ?_
                 refine ov (V_pick_fd rfl g8 rfl) ?_
                 refine ov (V_pick_t rfl (decide_eq_true (by subst h58; exact made_by hm (by omega))) rfl) ?_
                 refine oas ?_
                 refine nq ?_
                 refine W.ret ?_
                 refine WQ.ret1 Try.results19 (.tmp rfl) ?_
                 intro w' hp; exact ⟨by first | rfl | (simp; done) | (simp [*]; done) | (subst h58; exact congrArg (fun b => Ending.returned (.bool b)) (decide_eq_true (made_early hm rfl (by omega) (by omega)))), hp.forget⟩
             · refine W.skip ?_
               refine WQ.then ?_
               refine sr ?_
               refine omv ?_
               refine omv ?_
               refine oy rfl rfl ?_
               refine omv ?_
               refine oy rfl rfl ?_
               refine ov (vlda 103) ?_
               refine oy rfl rfl ?_
               refine ov (viA0 (j := 0) 3) ?_
               refine oy rfl rfl ?_
               first | refine ov vldI ?_ | refine ov vld ?_
               refine oy rfl rfl ?_
               refine ov (viA0 (j := 2) 3) ?_
               refine oy rfl rfl ?_
               first | refine ov vldI ?_ | refine ov vld ?_
               refine oy rfl rfl ?_
               first | refine ov vaddN ?_ | refine ov vadd ?_
               refine oy rfl rfl ?_
               refine cg rfl (fun w hp => repchk_calls (⟨3, 5, A, n, cap, l, ([2] ++ List.replicate (32 - 1) 0), b58⟩ : RepS) (xl.getD 0 0 + xl.getD 2 0) hMok b15 5 rl [] 0 w rat (hh hp) Good.nil hrl hrb sw (by omega)) (fun b85 h85 => ?_)
               refine oy rfl rfl ?_
               refine omv ?_
               refine oy rfl rfl ?_
               refine ov (v2 V_eql) ?_
               refine ov (V_pick_t rfl rfl rfl) ?_
               refine omv ?_
               refine oy rfl (decide_eq_true (by subst h58; exact (made_chk hm rfl (by omega) hT2).trans (by first | exact if_pos (by omega) | exact if_neg (by omega)))) ?_
               refine omv ?_
               refine oy rfl (decide_eq_true (by subst h58; exact (made_chk hm rfl (by omega) hT2).trans (by first | exact if_pos (by omega) | exact if_neg (by omega)))) ?_
               refine ov (vlda 103) ?_
               refine oy rfl (decide_eq_true (by subst h58; exact (made_chk hm rfl (by omega) hT2).trans (by first | exact if_pos (by omega) | exact if_neg (by omega)))) ?_
               refine ov (viA0 (j := 0) 3) ?_
               refine oy rfl (decide_eq_true (by subst h58; exact (made_chk hm rfl (by omega) hT2).trans (by first | exact if_pos (by omega) | exact if_neg (by omega)))) ?_
               first | refine ov vldI ?_ | refine ov vld ?_
               refine oy rfl (decide_eq_true (by subst h58; exact (made_chk hm rfl (by omega) hT2).trans (by first | exact if_pos (by omega) | exact if_neg (by omega)))) ?_
               refine cg rfl (fun w hp => repchk_calls (turnR (⟨3, 5, A, n, cap, l, ([2] ++ List.replicate (32 - 1) 0), b58⟩ : RepS) (xl.getD 1 0 % 32).toNat) (xl.getD 0 0) hTok b15 5 rl b85.1 b85.2 w rat (hh hp) h85 hrl hrb sw (by omega)) (fun b94 h94 => ?_)
               refine oy rfl (decide_eq_true (by subst h58; exact (made_chk hm rfl (by omega) hT2).trans (by first | exact if_pos (by omega) | exact if_neg (by omega)))) ?_
               refine ov (v2 V_eql) ?_
               refine ov (V_pick_t rfl (decide_eq_true (by subst h58; exact (made_chk hm rfl (by omega) hT2).trans (by first | exact if_pos (by omega) | exact if_neg (by omega)))) rfl) ?_
               refine omv ?_
               refine oy rfl (decide_eq_true (by subst h58; exact made_turn hm rfl (by omega) hT0 hq32)) ?_
               refine omv ?_
               refine oy rfl (decide_eq_true (by subst h58; exact made_turn hm rfl (by omega) hT0 hq32)) ?_
               refine ov (vlda 103) ?_
               refine oy rfl (decide_eq_true (by subst h58; exact made_turn hm rfl (by omega) hT0 hq32)) ?_
               refine ov (viA0 (j := 0) 3) ?_
               refine oy rfl (decide_eq_true (by subst h58; exact made_turn hm rfl (by omega) hT0 hq32)) ?_
               first | refine ov vldI ?_ | refine ov vld ?_
               refine oy rfl (decide_eq_true (by subst h58; exact made_turn hm rfl (by omega) hT0 hq32)) ?_
               refine cg rfl (fun w hp => repchk_calls (byR (⟨3, 5, A, n, cap, l, ([2] ++ List.replicate (32 - 1) 0), b58⟩ : RepS) 4) (xl.getD 0 0) hBok b15 5 rl b94.1 b94.2 w rat (hh hp) h94 hrl hrb sw (by omega)) (fun b102 h102 => ?_)
               refine oy rfl (decide_eq_true (by subst h58; exact made_turn hm rfl (by omega) hT0 hq32)) ?_
               refine ov (v2 V_eql) ?_
               refine ov (V_pick_t rfl (decide_eq_true (by subst h58; exact made_turn hm rfl (by omega) hT0 hq32)) rfl) ?_
               refine omv ?_
               refine oy rfl (decide_eq_true (by subst h58; exact made_by hm (by omega))) ?_
               refine ov (viA0 (j := 0) 3) ?_
               refine oy rfl (decide_eq_true (by subst h58; exact made_by hm (by omega))) ?_
               first | refine ov vldI ?_ | refine ov vld ?_
               refine oy rfl (decide_eq_true (by subst h58; exact made_by hm (by omega))) ?_
               refine ov (v2 V_eql) ?_
               refine oy rfl (decide_eq_true (by subst h58; exact made_by hm (by omega))) ?_
               refine omv ?_
               refine WL.splitD rfl (fun g9 => ?_) (fun g9 => ?_)
               · refine on rfl (decide_eq_true g9) ?_
                 refine on rfl (decide_eq_true g9) ?_
                 refine on rfl (decide_eq_true g9) ?_
                 refine on rfl (decide_eq_true g9) ?_
                 refine on rfl (decide_eq_true g9) ?_
                 refine on rfl (decide_eq_true g9) ?_
                 refine on rfl (decide_eq_true g9) ?_
                 refine oy rfl (decide_eq_true (by subst h58; exact made_by hm (by omega))) ?_
                 refine ov (V_pick_td rfl g9 rfl) ?_
                 refine ov (V_pick_t rfl (decide_eq_true (by subst h58; exact made_by hm (by omega))) rfl) ?_
                 refine oas ?_
                 refine nq ?_
                 refine W.ret ?_
                 refine WQ.ret1 Try.results19 (.tmp rfl) ?_
                 intro w' hp; exact ⟨by first | rfl | (simp; done) | (simp [*]; done) | (subst h58; exact congrArg (fun b => Ending.returned (.bool b)) (decide_eq_true (made_early hm rfl (by omega) (by omega)))), hp.forget⟩
               · refine oy rfl (decide_eq_false g9) ?_
                 refine omv ?_
                 refine oy rfl (decide_eq_false g9) ?_
                 refine ov (vlda 103) ?_
                 refine oy rfl (decide_eq_false g9) ?_
                 refine ov (viA0 (j := 0) 3) ?_
                 refine oy rfl (decide_eq_false g9) ?_
                 first | refine ov vldI ?_ | refine ov vld ?_
                 refine oy rfl (decide_eq_false g9) ?_
                 first | refine ov vsubN ?_ | refine ov vsub ?_
                 refine oy rfl (decide_eq_false g9) ?_
                 refine cg rfl (fun w hp => repchk_calls (⟨3, 5, A, n, cap, l, ([2] ++ List.replicate (32 - 1) 0), b58⟩ : RepS) (xl.getD 0 0 - 1) hMok b15 5 rl b102.1 b102.2 w rat (hh hp) h102 hrl hrb sw (by omega)) (fun b115 h115 => ?_)
                 refine oy rfl (decide_eq_false g9) ?_
                 refine ov (v2 V_eql) ?_
                 refine oy rfl (decide_eq_true (by subst h58; exact made_by hm (by omega))) ?_
                 refine ov (V_pick_fd rfl g9 rfl) ?_
                 refine ov (V_pick_t rfl (decide_eq_true (by subst h58; exact made_by hm (by omega))) rfl) ?_
                 refine oas ?_
                 refine nq ?_
                 refine W.ret ?_
                 refine WQ.ret1 Try.results19 (.tmp rfl) ?_
                 intro w' hp; exact ⟨by first | rfl | (simp; done) | (simp [*]; done) | (subst h58; exact congrArg (fun b => Ending.returned (.bool b)) (decide_eq_true (made_early hm rfl (by omega) (by omega)))), hp.forget⟩

end Go.Proofs.Ytbalnjejamigaaa