/- The statements of layer 17: their walks (under way). -/
import Derived.Test.YtmeckbjinmgbbaaGreatMrb
set_option linter.unusedVariables false
set_option linter.unusedSimpArgs false

namespace Go.Proofs.YtmeckbjinmgbbaaGreat
open Go.X

theorem joinF_cons {x : List Int} {ll : List (List Int)} : joinF (x :: ll) = highF x.length 4 ++ (x ++ joinF ll) := by simp [joinF]
theorem part_join : ∀ {ll : List (List Int)}, (∀ l ∈ ll, l.length ≤ 1000000) → partL (joinF ll) = some ll
  | [], _ => rfl
  | x :: ll, h => by
    have hx := h x List.mem_cons_self
    have ih := part_join fun l hl => h l (List.mem_cons_of_mem _ hl)
    have ht : (joinF (x :: ll)).take 4 = highF x.length 4 := by
      rw [joinF_cons, List.take_append_of_le_length (by simp), List.take_of_length_le (by simp)]
    have hd : (joinF (x :: ll)).drop 4 = x ++ joinF ll := by
      rw [joinF_cons, List.drop_append_of_le_length (by simp), List.drop_of_length_le (by simp), List.nil_append]
    have hl : (joinF (x :: ll)).length = 4 + (x.length + (joinF ll).length) := by rw [joinF_cons]; simp
    have hn : (numH (highF (x.length : Int) 4)).toNat = x.length := by rw [numH_high4 ⟨by omega, by omega⟩]; simp
    rw [partL_un (List.length_pos_iff.1 (by omega)), if_neg (by omega), ht, hn, if_neg (by omega), hd, List.drop_left, List.take_left, ih]; rfl

theorem join_part {f : Nat} : ∀ {l : List Int} {ll : List (List Int)}, partF f l = some ll → bytes l → joinF ll = l := by
  induction f with
  | zero =>
    intro l ll h _
    unfold partF at h
    split at h
    · rename_i e; cases h; rw [e]; rfl
    · cases h
  | succ f ih =>
    intro l ll h hb
    unfold partF at h
    split at h
    · rename_i e; cases h; rw [e]; rfl
    split at h
    · cases h
    split at h
    · cases h
    rename_i _ h4 hq
    obtain ⟨m, hm, rfl⟩ := Option.map_eq_some_iff.1 h
    have e1 := ih hm ((hb.drop 4).drop _)
    have h0 := numH_bound (hb.take 4)
    have e2 := highF_numH (l := l.take 4) (hb.take 4) (by simp; omega)
    rw [show (l.take 4).length = 4 by simp; omega] at e2
    have e3 : (((l.drop 4).take (numH (l.take 4)).toNat).length : Int) = numH (l.take 4) := by
      rw [List.length_take, List.length_drop]; omega
    rw [joinF_cons, e3, e2, e1, List.take_append_drop, List.take_append_drop]
/-- What is written is read. -/
theorem rep_part {r : RepS} (h : rB r = true) (hok : RepOK r) (hl : r.tn = r.tl.length) : partL (repL r) = some [highF r.id 4, [r.who], r.tl, r.op, bF r.st] := by
  have hb := rB_bd h
  have hbl := bF_len hok.2.2.1 hok.2.2.2.2.1
  have hbn := bN_le (s := r.st)
  refine part_join fun l hm => ?_
  simp only [List.mem_cons, List.not_mem_nil, or_false] at hm
  rcases hm with rfl | rfl | rfl | rfl | rfl
  · simp
  · simp
  · omega
  · rw [hok.1]; omega
  · omega

theorem rep_back {r : RepS} (h : rB r = true) (hok : RepOK r) (B : Option Addr) (c : Nat) : repR B c (highF r.id 4) [r.who] r.tl r.op (bF r.st) = ⟨r.id, r.who, B, r.tl.length, c, r.tl, r.op, r.st⟩ := by
  have hb := rB_bd h
  obtain ⟨-, -, hc, -, ht, -, -, -⟩ := hok
  have e1 : readF (bF r.st) = r.st := by rw [bF_t hb.1, readFg (read_ok hb.1 hc ht), read_bytes hb.1 hc ht]
  have e2 : numH ((highF r.id 4).take 8) = r.id := by rw [List.take_of_length_le (by simp), numH_high4 hb.2.1]
  unfold repR
  rw [e1, e2]; rfl
theorem rep_ok {r : RepS} (h : rB r = true) (hok : RepOK r) (hl : r.tn = r.tl.length) : repE (repL r) = 0 ∧ repTx (repL r) = r.tl ∧ ∀ o, repRd o (repL r) = ⟨r.id, r.who, gA o, r.tl.length, gC o, r.tl, r.op, r.st⟩ := by
  have hp := rep_part h hok hl
  have hb := rB_bd h
  obtain ⟨e1, e2⟩ := part_ok hp
  have e0 := repE_ok e1 (okRows_mk e2 ⟨by simp, rfl, hok.1, by rw [bF_t hb.1]; exact read_ok hb.1 hok.2.2.1 hok.2.2.2.2.1, by rw [rep_back h hok]; rw [← h]; unfold rB; rw [hl]⟩)
  refine ⟨e0, by unfold repTx; rw [if_pos e0, e2]; rfl, fun o => ?_⟩
  unfold repRd
  rw [if_pos e0, e2]
  exact rep_back h hok _ _

section
variable {root op : List Int} {id fr to now t : Int} {A : Option Addr} {n cap : Nat} {tl : List Int}
theorem made_may (h1 : timeB now = true) (hf : 0 ≤ fr ∧ fr < 8) (ht : 0 ≤ to ∧ to < 8) : mayB (madeEnv op fr to tl) now = true := by
  simp [mayB, madeEnv, acB, h1, hf, ht]
theorem made_rB (hm : mayB (madeEnv op fr to tl) now = true) (hid : timeB id = true) (hn : n ≤ 250) : rB (madeR root op id fr to now A n cap tl) = true := by
  have hb := may_bd hm
  have h1 := stamp_right (root := root) (ticks := 5) hm (by omega)
  rw [rB_yes ⟨h1, by show 0 ≤ id ∧ id ≤ 1000000; simpa [timeB] using hid, hb.2.2⟩]
  exact decide_eq_true (by show (n : Int) ≤ 250; omega)
theorem made_com (hm : mayB (madeEnv op fr to tl) now = true) : comL (madeR root op id fr to now A n cap tl) = (madeR root op id fr to now A n cap tl).st.commit := by
  unfold comL madeR
  simp only [stampF_t hm]; rfl
theorem made_to (hm : mayB (madeEnv op fr to tl) now = true) : (madeR root op id fr to now A n cap tl).who = (madeR root op id fr to now A n cap tl).st.to := by
  unfold madeR
  simp only [stampF_t hm]; rfl
/-- A good report is good through the window. -/
theorem made_chk (hm : mayB (madeEnv op fr to tl) now = true) (hid : timeB id = true) (hn : n ≤ 250) (h2 : timeB t = true) : repChk root 5 (madeR root op id fr to now A n cap tl) t = if t < now ∨ t > now + 50 then 5 else 0 := by
  have hr : rB (madeR root op id fr to now A n cap tl) = true ∧ (madeR root op id fr to now A n cap tl).who = (madeR root op id fr to now A n cap tl).st.to := ⟨made_rB hm hid hn, made_to hm⟩
  have hc := check_stamp (root := root) (ticks := 5) (t := t) hm (by omega) h2
  have hc' : checkF root 5 (madeR root op id fr to now A n cap tl).st t = if t < now ∨ t > now + 50 then 5 else 0 := hc
  by_cases h : t < now ∨ t > now + 50
  · rw [if_pos h] at hc' ⊢
    rw [rcE hr (by omega), hc']
  · rw [if_neg h] at hc' ⊢
    rw [rcO hr hc', if_pos (made_com hm)]
theorem made_ok (ho : op.length = 32) (hob : bytes op) (htl : bytes tl) (hnc : n ≤ cap) : RepOK (madeR root op id fr to now A n cap tl) :=
  ⟨ho, hob, stampF_clen (by simp [madeEnv]), stampF_cb (by simp [madeEnv]), stampF_tlen, stampF_tb, htl, hnc⟩
end
theorem join_mem : ∀ {ll : List (List Int)}, bytes (joinF ll) → ∀ l ∈ ll, bytes l
  | x :: ll, h, l, hl => by
    rw [joinF_cons] at h
    rcases List.mem_cons.1 hl with rfl | hl
    · exact fun c hc => h c (List.mem_append_right _ (List.mem_append_left _ hc))
    · exact join_mem (fun c hc => h c (List.mem_append_right _ (List.mem_append_right _ hc))) l hl
theorem zeroR_ok : RepOK zeroR := ⟨rfl, bytes_zero, rfl, bytes_zero, rfl, bytes_zero, (fun c hc => by cases hc), Nat.le_refl _⟩
/-- What is read is a report's cells. -/
theorem repRd_ok {l : List Int} (hb : bytes l) {o : Gr} (ho : GrOK o (repTx l).length) : RepOK (repRd o l) ∧ (repRd o l).tn = (repTx l).length ∧ (repRd o l).tl = repTx l := by
  by_cases h : repE l = 0
  · have hp : ∃ ll, partL l = some ll ∧ okRows ll = true := by
      unfold repE at h
      split at h
      · cases h
      · rename_i ll hq
        refine ⟨ll, hq, ?_⟩
        cases hk : okRows ll with
        | true => rfl
        | false => rw [hk] at h; cases h
    obtain ⟨ll, hq, hk⟩ := hp
    have hk2 := hk
    simp only [okRows, Bool.and_eq_true, decide_eq_true_eq] at hk2
    obtain ⟨⟨⟨⟨⟨k5, k0⟩, k1⟩, k3⟩, k4⟩, kr⟩ := hk2
    obtain ⟨l0, l1, l2, l3, l4, rfl⟩ := okRows5 k5
    have hr : partR l = [l0, l1, l2, l3, l4] := (part_ok hq).2
    have hm := join_mem (ll := [l0, l1, l2, l3, l4]) (by rw [join_part hq hb]; exact hb)
    have ht : repTx l = l2 := by unfold repTx; rw [if_pos h, hr]; rfl
    have hd : repRd o l = repR (gA o) (gC o) l0 l1 l2 l3 l4 := by unfold repRd; rw [if_pos h, hr]; rfl
    rw [hd, ht]
    rw [ht] at ho
    exact ⟨⟨k3, hm l3 (by simp), readF_c, readF_cb (hm l4 (by simp)), readF_t, readF_tb (hm l4 (by simp)), hm l2 (by simp), ho.cap⟩, rfl, rfl⟩
  · have ht : repTx l = [] := by unfold repTx; rw [if_neg h]
    have hd : repRd o l = zeroR := by unfold repRd; rw [if_neg h]
    rw [hd, ht]
    exact ⟨zeroR_ok, rfl, rfl⟩
theorem repL_bytes {r : RepS} (h : rB r = true) (hok : RepOK r) : bytes (repL r) := by
  have hb := rB_bd h
  unfold repL
  refine joinF_bytes fun l hl => ?_
  simp only [List.mem_cons, List.not_mem_nil, or_false] at hl
  rcases hl with rfl | rfl | rfl | rfl | rfl
  · simp
  · intro c hc; rw [List.mem_singleton.1 hc]; omega
  · exact hok.2.2.2.2.2.2.1
  · exact hok.2.1
  · exact bF_bytes hok.2.2.2.1 hok.2.2.2.2.2.1

theorem made17_S (rl op : List Int) (id fr to now : Int) (hl : rl.length = 32) (hrb : bytes rl) (ho : op.length = 32) (hob : bytes op) (hfr : 0 ≤ fr ∧ fr < 8) (hto : 0 ≤ to ∧ to < 8) (A : Option Addr) (n cap : Nat) (tl : List Int) (w : World) (hT : SrW w 1 A n (iv .u8 tl)) (htl : bytes tl) (hnc : n ≤ cap) (hn : n ≤ 1000) :
    Calls Tryz.prog 36 [AG [(32, iv .u8 rl)], AG [(32, iv .u8 op)], .int .i64 id, .int .i64 fr, .int .i64 to, .int .i64 now, .slice A n cap].toArray w fun e w' => ∃ S : StampS, S = stampF rl 5 (madeEnv op fr to tl) now ∧ e = .returned (AG (⟨id, to, A, n, cap, tl, op, S⟩ : RepS).V) ∧ HP w w' [] [] := by
  exact (made17_calls rl op id fr to now hl hrb ho hob hfr hto A n cap tl w hT htl hnc hn).mono fun e w' ⟨he, hp⟩ => ⟨_, rfl, he, hp⟩

end Go.Proofs.YtmeckbjinmgbbaaGreat