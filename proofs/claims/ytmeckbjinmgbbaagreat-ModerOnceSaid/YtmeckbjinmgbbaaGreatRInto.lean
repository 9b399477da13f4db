/- BLAKE2s: how a block goes into the words, by the document's answer. -/
import Derived.Test.YtmeckbjinmgbbaaGreatInto
set_option linter.unusedVariables false
set_option linter.unusedSimpArgs false

namespace Go.Proofs.YtmeckbjinmgbbaaGreat
open Go.X
theorem xorI_assoc (a b c : Int) : xorI .u32 (xorI .u32 a b) c = xorI .u32 a (xorI .u32 b c) := by
  have h : ∀ x y : Int, BitVec.ofInt IntKind.u32.bits (xorI .u32 x y) = BitVec.ofInt IntKind.u32.bits x ^^^ BitVec.ofInt IntKind.u32.bits y := fun x y => by
    unfold xorI
    have hb : IntKind.u32.bits = 32 := rfl
    have hlt := (BitVec.ofInt IntKind.u32.bits x ^^^ BitVec.ofInt IntKind.u32.bits y).isLt
    rw [hb] at hlt ⊢
    rw [Go.IntWalk.u32_in _ (by omega), BitVec.ofInt_natCast, BitVec.ofNat_toNat, BitVec.setWidth_eq]
  have e : ∀ x y : Int, xorI .u32 x y = IntKind.u32.wrap ((BitVec.ofInt IntKind.u32.bits x ^^^ BitVec.ofInt IntKind.u32.bits y).toNat : Nat) := fun _ _ => rfl
  rw [e (xorI .u32 a b) c, e a (xorI .u32 b c), h, h, BitVec.xor_assoc]
theorem msgApp {bl : List Int} {i : Nat} (h : i < 16) : iv .u32 ((msgF bl).take i) ++ [Value.int .u32 (IntKind.u32.wrap (numH ((((bl.drop (4 * i)).take 4).take 8).reverse)))] = iv .u32 ((msgF bl).take (i + 1)) := by
  have e : ∀ k, k ≤ 16 → (msgF bl).take k = (List.range k).map fun i => IntKind.u32.wrap (numH ((bl.drop (4 * i)).take 4).reverse) := fun k hk => by
    rw [msgF, ← List.map_take, List.take_range, Nat.min_eq_left hk]
  rw [e i (by omega), e (i + 1) (by omega), List.take_take, show min 8 4 = 4 from rfl, List.range_succ]
  simp [iv]
theorem finApp {h v : List Int} {i : Nat} (hi : i < 8) : iv .u32 ((finF h v).take i) ++ [Value.int .u32 (xorI .u32 (xorI .u32 (h.getD i 0) (v.getD i 0)) (v.getD (i + 8) 0))] = iv .u32 ((finF h v).take (i + 1)) := by
  have e : ∀ k, k ≤ 8 → (finF h v).take k = (List.range k).map (fin1 h v) := fun k hk => by
    rw [finF, ← List.map_take, List.take_range, Nat.min_eq_left hk]
  rw [e i (by omega), e (i + 1) (by omega), List.range_succ, xorI_assoc]
  simp [iv, fin1]

set_option maxHeartbeats 4000000 in
theorem rinto_calls (A BA : Option Addr) (hcap bcap : Nat) (h bl : List Int) (t : Int) (last : Bool) (w : World) (hh0 : SrW w 1 A 8 (iv .u32 h)) (hh : h.length = 8) (hcap8 : 8 ≤ hcap) (hb0 : SrW w 1 BA 64 (iv .u8 bl)) (hb : bytes bl) (hbc : 64 ≤ bcap) (ht0 : 0 ≤ t) (ht1 : t ≤ 1000000000) :
    Calls Tryz.prog 145 [.slice A 8 hcap, .slice BA 64 bcap, .int .i64 t, .bool last].toArray w fun e w' => ∃ q : Nat × Nat × List Value, 8 ≤ q.2.1 ∧ e = .returned (.slice (some ⟨q.1, 0, none⟩) 8 q.2.1) ∧ HP w w' [] [(q.1, .cells [(8, iv .u32 (intoF h bl t last)), (q.2.1 - 8, q.2.2)] 223)] := by
  obtain ⟨ab, ao, rfl⟩ := hh0.has (by rw [iv_len]; omega)
  have hbl : bl.length = 64 := by have := hb0.1; rw [iv_len] at this; omega
  have hv16 : (h ++ firstL).length = 16 := by rw [List.length_append, hh]; rfl
  have hs1 : (st1 h t).length = 16 := by simp [st1, hv16]
  have hs2 : (st2 h t).length = 16 := by simp [st2, hs1]
  refine calls_of_W Tryz.func145 rfl Tryz.ntmps145 rfl rfl (HP.refl w []) ?_
  refine W.seq ?_
  refine W.region ?_
  refine WL.as rfl rfl ?_
  refine WL.nil ?_
  refine WQ.then ?_
  refine W.seq ?_
  refine W.region ?_
  refine WL.bslice 223 4 rfl (by kernel_rfl) rfl rfl (by simp [one]) (by decide) ?_; intro b17
  refine WL.mv rfl rfl ?_
  refine WL.append 223 4 rfl (by kernel_rfl) rfl rfl (by omega) (by repeat (first | exact Del.here _ | apply Del.there)) (by first | exact SrW.nil.old0 | exact SrW.old0 ‹_› | exact Sr.own (by repeat (first | exact At.head | exact At.headR | apply At.tail)) (by first | exact iv_one | simp [one]) | exact Sr.all (by repeat (first | exact At.head | exact At.headR | apply At.tail)) (by first | exact iv_one | simp [one])) (by omega) (by omega) ?_; intro b19 c19 r19 h19
  refine WL.call [] (fun r => .slice (some ⟨r, 0, none⟩) 8 8) (fun r => [(r, .cells [(8, iv .u32 firstL), (8 - 8, [])] 223)]) (fun _ => True) rfl (by kernel_rfl) rfl (.nil _) (fun w hp => rfirst_calls w) ?_; intro b20 _
  refine WL.append 223 4 rfl (by kernel_rfl) rfl rfl (by omega) (by repeat (first | exact Del.here _ | apply Del.there)) (by first | exact SrW.nil.old0 | exact SrW.old0 ‹_› | exact Sr.own (by repeat (first | exact At.head | exact At.headR | apply At.tail)) (by first | exact iv_one | simp [one]) | exact Sr.all (by repeat (first | exact At.head | exact At.headR | apply At.tail)) (by first | exact iv_one | simp [one])) (by omega) (by omega) ?_; intro b21 c21 r21 h21
  refine WL.as rfl rfl ?_
  refine WL.nil ?_
  refine WQ.then ?_
  refine W.seq ?_
  refine W.region ?_
  rw [List.nil_append, iv_app, show 0 + 8 + 8 = 16 from rfl]
  refine WL.mv rfl rfl ?_
  refine WL.mv rfl rfl ?_
  refine WL.val rfl (V_idxS1 (12) (by kernel_rfl) rfl rfl (by omega) (by omega)) ?_
  refine WL.val rfl (V_loadIv (12) (by kernel_rfl) rfl (by repeat (first | exact At.head | exact AtW.at ‹_› (by simp) | apply At.tail)) rfl (by first | omega | (rw [msgF_len]; omega) | (rw [st3_len hh]; omega) | (rw [rouF_len, st3_len hh]; omega) | (rw [colF_len, rouF_len, st3_len hh]; omega) | (rw [diaF_len, colF_len, rouF_len, st3_len hh]; omega) | (rw [colF_len, rouF_len, st3_len hh]) | (rw [diaF_len, colF_len, rouF_len, st3_len hh]) | (simp only [List.length_append, List.length_take, List.length_replicate, List.length_drop, msgF_len, finF_len] <;> omega))) ?_
  refine WL.mv rfl rfl ?_
  refine WL.val rfl (V_conv (k' := .u32) rfl (by kernel_rfl) (by kernel_rfl)) ?_
  refine WL.val rfl (V_xor rfl rfl) ?_
  refine WL.val rfl (V_idxS1 (12) (by kernel_rfl) rfl rfl (by omega) (by omega)) ?_
  refine WL.storeIv (12) (by kernel_rfl) rfl rfl (by repeat (first | exact Upd.here _ _ | apply Upd.there)) rfl (by first | omega | (rw [msgF_len]; omega) | (rw [st3_len hh]; omega) | (rw [rouF_len, st3_len hh]; omega) | (rw [colF_len, rouF_len, st3_len hh]; omega) | (rw [diaF_len, colF_len, rouF_len, st3_len hh]; omega) | (rw [colF_len, rouF_len, st3_len hh]) | (rw [diaF_len, colF_len, rouF_len, st3_len hh]) | (simp only [List.length_append, List.length_take, List.length_replicate, List.length_drop, msgF_len, finF_len] <;> omega)) ?_; rw [show (h ++ firstL).set 12 _ = st1 h t from rfl]
  refine WL.nil ?_
  refine WQ.then ?_
  refine W.seq ?_
  refine W.region ?_
  refine WL.mv rfl rfl ?_
  refine WL.mv rfl rfl ?_
  refine WL.val rfl (V_idxS1 (13) (by kernel_rfl) rfl rfl (by omega) (by omega)) ?_
  refine WL.val rfl (V_loadIv (13) (by kernel_rfl) rfl (by repeat (first | exact At.head | exact AtW.at ‹_› (by simp) | apply At.tail)) rfl (by first | omega | (rw [msgF_len]; omega) | (rw [st3_len hh]; omega) | (rw [rouF_len, st3_len hh]; omega) | (rw [colF_len, rouF_len, st3_len hh]; omega) | (rw [diaF_len, colF_len, rouF_len, st3_len hh]; omega) | (rw [colF_len, rouF_len, st3_len hh]) | (rw [diaF_len, colF_len, rouF_len, st3_len hh]) | (simp only [List.length_append, List.length_take, List.length_replicate, List.length_drop, msgF_len, finF_len] <;> omega))) ?_
  refine WL.mv rfl rfl ?_
  refine WL.val rfl (V_convN (k' := .u64) rfl (by kernel_rfl) (by kernel_rfl) (Go.IntWalk.u64_in _ (by omega))) ?_
  refine WL.val rfl (V_shr rfl rfl (by omega)) ?_
  refine WL.val rfl (V_conv (k' := .u32) rfl (by kernel_rfl) (by kernel_rfl)) ?_
  refine WL.val rfl (V_xor rfl rfl) ?_
  refine WL.val rfl (V_idxS1 (13) (by kernel_rfl) rfl rfl (by omega) (by omega)) ?_
  refine WL.storeIv (13) (by kernel_rfl) rfl rfl (by repeat (first | exact Upd.here _ _ | apply Upd.there)) rfl (by first | omega | (rw [msgF_len]; omega) | (rw [st3_len hh]; omega) | (rw [rouF_len, st3_len hh]; omega) | (rw [colF_len, rouF_len, st3_len hh]; omega) | (rw [diaF_len, colF_len, rouF_len, st3_len hh]; omega) | (rw [colF_len, rouF_len, st3_len hh]) | (rw [diaF_len, colF_len, rouF_len, st3_len hh]) | (simp only [List.length_append, List.length_take, List.length_replicate, List.length_drop, msgF_len, finF_len] <;> omega)) ?_; rw [show (st1 h t).set 13 _ = st2 h t from rfl]
  refine WL.nil ?_
  refine WQ.then ?_
  refine W.seq ?_
  refine W.seq ?_
  refine W.region ?_
  refine WL.mv rfl rfl ?_
  refine WL.nil ?_
  refine WQ.then ?_
  apply W.join
  · intro hj
    refine W.cond rfl (fun g1 => ?_) (fun g1 => ?_)
    ·
      refine W.region ?_
      refine WL.mv rfl rfl ?_
      refine WL.mv rfl rfl ?_
      refine WL.val rfl (V_idxS1 (14) (by kernel_rfl) rfl rfl (by omega) (by omega)) ?_
      refine WL.val rfl (V_loadIv (14) (by kernel_rfl) rfl (by repeat (first | exact At.head | exact AtW.at ‹_› (by simp) | apply At.tail)) rfl (by first | omega | (rw [msgF_len]; omega) | (rw [st3_len hh]; omega) | (rw [rouF_len, st3_len hh]; omega) | (rw [colF_len, rouF_len, st3_len hh]; omega) | (rw [diaF_len, colF_len, rouF_len, st3_len hh]; omega) | (rw [colF_len, rouF_len, st3_len hh]) | (rw [diaF_len, colF_len, rouF_len, st3_len hh]) | (simp only [List.length_append, List.length_take, List.length_replicate, List.length_drop, msgF_len, finF_len] <;> omega))) ?_
      refine WL.val rfl (V_com rfl) ?_
      refine WL.val rfl (V_idxS1 (14) (by kernel_rfl) rfl rfl (by omega) (by omega)) ?_
      refine WL.storeIv (14) (by kernel_rfl) rfl rfl (by repeat (first | exact Upd.here _ _ | apply Upd.there)) rfl (by first | omega | (rw [msgF_len]; omega) | (rw [st3_len hh]; omega) | (rw [rouF_len, st3_len hh]; omega) | (rw [colF_len, rouF_len, st3_len hh]; omega) | (rw [diaF_len, colF_len, rouF_len, st3_len hh]; omega) | (rw [colF_len, rouF_len, st3_len hh]) | (rw [diaF_len, colF_len, rouF_len, st3_len hh]) | (simp only [List.length_append, List.length_take, List.length_replicate, List.length_drop, msgF_len, finF_len] <;> omega)) ?_
      refine WL.nil ?_
      rw [show (st2 h t).set 14 _ = st3 h t last from by rw [st3, g1]; rfl]
      exact WQ.pick (S' := [(0, _), (1, _), (2, _), (3, _), (8, _), (9, _), (17, _), (18, _), (19, _), (20, _), (21, _), (22, _), (23, _), (24, _), (25, _), (26, _), (27, _), (28, _), (29, _), (30, _), (31, _), (32, _), (33, _), (34, _), (35, _), (36, _), (37, _), (38, _), (39, _), (40, _)]) [0, 1, 2, 3, 8, 9, 17, 18, 19, 20, 21, 22, 23, 24, 25, 26, 27, 28, 29, 30, 31, 32, 33, 34, 35, 36, 37, 38, 39, 40] rfl hj
    ·
      refine W.skip ?_
      rw [show st2 h t = st3 h t last from by rw [st3, g1]; rfl]
      exact WQ.pick (S' := [(0, _), (1, _), (2, _), (3, _), (8, _), (9, _), (17, _), (18, _), (19, _), (20, _), (21, _), (22, _), (23, _), (24, _), (25, _), (26, _), (27, _), (28, _), (29, _), (30, _), (31, _), (32, _), (33, _), (34, _), (35, _), (36, _), (37, _), (38, _), (39, _), (40, _)]) [0, 1, 2, 3, 8, 9, 17, 18, 19, 20, 21, 22, 23, 24, 25, 26, 27, 28, 29, 30, 31, 32, 33, 34, 35, 36, 37, 38, 39, 40] rfl hj
  refine WQ.then ?_
  refine W.seq ?_
  refine W.region ?_
  refine WL.as rfl rfl ?_
  refine WL.nil ?_
  refine WQ.then ?_
  refine W.seq ?_
  refine W.seq ?_
  refine W.region ?_
  refine WL.as rfl rfl ?_
  refine WL.nil ?_
  refine WQ.then ?_
  refine W.block ?_
  -- LOOP
  refine W.pick [0, 1, 9, 10, 11] rfl ?_
  refine W.sub (L' := [(b21, .cells [(16, iv .u32 (st3 h t last)), (c21 - 16, r21)] 223)]) (by repeat (first | exact List.Sublist.refl _ | exact List.nil_sublist _ | refine List.Sublist.cons_cons _ ?_ | refine List.Sublist.cons _ ?_)) ?_
  refine W.loop (σ := Option (Nat × Nat × Nat × List Value)) (fun s => match s with | none => True | some q => 1 ≤ q.1 ∧ q.1 ≤ 16 ∧ q.1 ≤ q.2.2.1) (fun s => match s with | none => [(0, .slice (some ⟨ab, ao, none⟩) 8 hcap), (1, .slice BA 64 bcap), (9, .slice (some ⟨b21, 0, none⟩) 16 c21), (10, .slice none 0 0), (11, .int .i64 0)] | some q => [(0, .slice (some ⟨ab, ao, none⟩) 8 hcap), (1, .slice BA 64 bcap), (9, .slice (some ⟨b21, 0, none⟩) 16 c21), (10, .slice (some ⟨q.2.1, 0, none⟩) q.1 q.2.2.1), (11, .int .i64 q.1)]) (fun s => match s with | none => [(b21, .cells [(16, iv .u32 (st3 h t last)), (c21 - 16, r21)] 223)] | some q => [(q.2.1, .cells [(q.1, iv .u32 ((msgF bl).take q.1)), (q.2.2.1 - q.1, q.2.2.2)] 223), (b21, .cells [(16, iv .u32 (st3 h t last)), (c21 - 16, r21)] 223)]) (fun s => match s with | none => 17 | some q => 16 - q.1) none rfl rfl trivial ?_
  rintro (_ | ⟨i, bm, cm, rm⟩) hi
  ·
    dsimp only at hi ⊢
    refine W.seq ?_
    refine W.seq ?_
    refine W.region ?_
    refine WL.mv rfl rfl ?_
    refine WL.val rfl (V_lss rfl rfl) ?_
    refine WL.nil ?_
    refine WQ.then ?_
    refine W.cond_true rfl (by decide) ?_
    refine W.skip ?_
    refine WQ.then ?_
    refine W.seq ?_
    refine W.block ?_
    refine W.region ?_
    refine WL.mv rfl rfl ?_
    refine WL.mv rfl rfl ?_
    refine WL.mv rfl rfl ?_
    first | refine WL.val rfl (V_mulN rfl rfl (by omega)) ?_ | refine WL.val rfl (V_mul rfl rfl) ?_
    refine WL.mv rfl rfl ?_
    first | refine WL.val rfl (V_mulN rfl rfl (by omega)) ?_ | refine WL.val rfl (V_mul rfl rfl) ?_
    first | refine WL.val rfl (V_addN rfl rfl (by omega)) ?_ | refine WL.val rfl (V_add rfl rfl) ?_
    refine WL.val rfl (V_slice (s := 1) (l := 4 * 0) (h := 4 * 0 + 4) (by kernel_rfl) rfl (.yes rfl (by omega)) (.yes rfl (by omega)) (by omega) (by omega)) ?_
    refine WL.pure _ rfl (by kernel_rfl) rfl (fun w hp => rofLow_calls _ _ _ ((bl.drop (4 * 0)).take 4) w (by have := (hb0.step hp (by simp)).cut (l := 4 * 0) (h := 4 * 0 + 4) (m := bcap) (by omega) (by omega) (by omega); simpa [iv_drop, iv_take, Nat.add_sub_cancel_left] using this) ((hb.drop _).take _) (by omega)) ?_
    refine WL.val rfl (V_conv (k' := .u32) rfl (by kernel_rfl) (by kernel_rfl)) ?_
    refine WL.bslice 223 4 rfl (by kernel_rfl) rfl rfl (by simp [one]) (by decide) ?_; intro b61
    refine WL.appendN 223 4 rfl (by kernel_rfl) rfl rfl (by first | exact SrW.nil.old0 | exact SrW.old0 ‹_› | exact Sr.own (by repeat (first | exact At.head | exact At.headR | apply At.tail)) (by first | exact iv_one | simp [one]) | exact Sr.all (by repeat (first | exact At.head | exact At.headR | apply At.tail)) (by first | exact iv_one | simp [one])) (by omega) (by omega) (by omega) ?_; intro b62 c62 r62 h62
    refine WL.as rfl rfl ?_
    refine WL.nil ?_
    refine WQ.block_normal ?_
    refine WQ.then ?_
    refine W.region ?_
    refine WL.mv rfl rfl ?_
    first | refine WL.val rfl (V_addN rfl rfl (by omega)) ?_ | refine WL.val rfl (V_add rfl rfl) ?_
    refine WL.as rfl rfl ?_
    refine WL.nil ?_
    rw [show [Value.int .u32 _] = iv .u32 ((msgF bl).take 1) from msgApp (i := 0) (by decide)]
    exact WQ.again (some (1, b62, c62, r62)) [0, 1, 9, 10, 11] (by refine ⟨by show 1 ≤ 1; decide, by show 1 ≤ 16; decide, by show 1 ≤ c62; omega⟩) (by show 16 - 1 < 17; decide) rfl (by repeat (first | exact List.Sublist.refl _ | exact List.nil_sublist _ | refine List.Sublist.cons_cons _ ?_ | refine List.Sublist.cons _ ?_))
  ·
    dsimp only at hi ⊢
    refine W.seq ?_
    refine W.seq ?_
    refine W.region ?_
    refine WL.mv rfl rfl ?_
    refine WL.val rfl (V_lss rfl rfl) ?_
    refine WL.nil ?_
    refine WQ.then ?_
    refine W.cond_dec rfl (fun g2 => ?_) (fun g2 => ?_)
    ·
      refine W.skip ?_
      refine WQ.then ?_
      refine W.seq ?_
      refine W.block ?_
      refine W.region ?_
      refine WL.mv rfl rfl ?_
      refine WL.mv rfl rfl ?_
      refine WL.mv rfl rfl ?_
      first | refine WL.val rfl (V_mulN rfl rfl (by omega)) ?_ | refine WL.val rfl (V_mul rfl rfl) ?_
      refine WL.mv rfl rfl ?_
      first | refine WL.val rfl (V_mulN rfl rfl (by omega)) ?_ | refine WL.val rfl (V_mul rfl rfl) ?_
      first | refine WL.val rfl (V_addN rfl rfl (by omega)) ?_ | refine WL.val rfl (V_add rfl rfl) ?_
      refine WL.val rfl (V_slice (s := 1) (l := 4 * i) (h := 4 * i + 4) (by kernel_rfl) rfl (.yes rfl (by omega)) (.yes rfl (by omega)) (by omega) (by omega)) ?_
      refine WL.pure _ rfl (by kernel_rfl) rfl (fun w hp => rofLow_calls _ _ _ ((bl.drop (4 * i)).take 4) w (by have := (hb0.step hp (by simp)).cut (l := 4 * i) (h := 4 * i + 4) (m := bcap) (by omega) (by omega) (by omega); simpa [iv_drop, iv_take, Nat.add_sub_cancel_left] using this) ((hb.drop _).take _) (by omega)) ?_
      refine WL.val rfl (V_conv (k' := .u32) rfl (by kernel_rfl) (by kernel_rfl)) ?_
      refine WL.bslice 223 4 rfl (by kernel_rfl) rfl rfl (by simp [one]) (by decide) ?_; intro b61
      refine WL.append 223 4 rfl (by kernel_rfl) rfl rfl (by omega) (by repeat (first | exact Del.here _ | apply Del.there)) (by first | exact SrW.nil.old0 | exact SrW.old0 ‹_› | exact Sr.own (by repeat (first | exact At.head | exact At.headR | apply At.tail)) (by first | exact iv_one | simp [one]) | exact Sr.all (by repeat (first | exact At.head | exact At.headR | apply At.tail)) (by first | exact iv_one | simp [one])) (by omega) (by omega) ?_; intro b62 c62 r62 h62
      refine WL.as rfl rfl ?_
      refine WL.nil ?_
      refine WQ.block_normal ?_
      refine WQ.then ?_
      refine W.region ?_
      refine WL.mv rfl rfl ?_
      first | refine WL.val rfl (V_addN rfl rfl (by omega)) ?_ | refine WL.val rfl (V_add rfl rfl) ?_
      refine WL.as rfl rfl ?_
      refine WL.nil ?_
      rw [msgApp (by omega)]
      exact WQ.again (some (i + 1, b62, c62, r62)) [0, 1, 9, 10, 11] (by refine ⟨by show 1 ≤ i + 1; omega, by show i + 1 ≤ 16; omega, by show i + 1 ≤ c62; omega⟩) (by show 16 - (i + 1) < 16 - i; omega) rfl (by repeat (first | exact List.Sublist.refl _ | exact List.nil_sublist _ | refine List.Sublist.cons_cons _ ?_ | refine List.Sublist.cons _ ?_))
    ·
      refine W.exit ?_
      refine WQ.then_exit ?_
      refine WQ.then_exit ?_
      refine WQ.block_hit ?_
      refine WQ.then ?_
      refine W.seq ?_
      refine W.region ?_
      obtain rfl : i = 16 := by omega
      rw [List.take_of_length_le (by rw [msgF_len]; omega)]
      refine WL.call [] (fun (q : Nat × (Nat → Nat)) => .slice (some ⟨q.1, 0, none⟩) 10 10) (fun q => (q.1, .cells [(10, (List.range 10).map fun i => .slice (some ⟨q.2 i, 0, none⟩) 16 16), (10 - 10, [])] 40) :: rowsL q.2) (fun _ => True) rfl (by kernel_rfl) rfl (.nil _) (fun w hp => rrows_calls w) ?_; rintro ⟨b63, B⟩ _
      refine WL.as rfl rfl ?_
      refine WL.nil ?_
      refine WQ.then ?_
      refine W.seq ?_
      refine W.seq ?_
      refine W.region ?_
      refine WL.as rfl rfl ?_
      refine WL.nil ?_
      refine WQ.then ?_
      refine W.block ?_
      -- LOOP
      refine W.pick [0, 9, 10, 12, 13] rfl ?_
      refine W.perm (List.perm_append_comm (l₁ := [(bm, .cells [(16, iv .u32 (msgF bl)), (cm - 16, rm)] 223), (b21, .cells [(16, iv .u32 (st3 h t last)), (c21 - 16, r21)] 223)]) (l₂ := _ :: rowsL B)) ?_
      refine W.loop (σ := Nat) (fun j => j ≤ 10) (fun j => [(0, .slice (some ⟨ab, ao, none⟩) 8 hcap), (9, .slice (some ⟨b21, 0, none⟩) 16 c21), (10, .slice (some ⟨bm, 0, none⟩) 16 cm), (12, .slice (some ⟨b63, 0, none⟩) 10 10), (13, .int .i64 (j : Nat))]) (fun j => (bm, .cells [(16, iv .u32 (msgF bl)), (cm - 16, rm)] 223) :: (b21, .cells [(16, iv .u32 (rouF (msgF bl) j (st3 h t last))), (c21 - 16, r21)] 223) :: (b63, .cells [(10, (List.range 10).map fun i => .slice (some ⟨B i, 0, none⟩) 16 16), (10 - 10, [])] 40) :: rowsL B) (fun j => 10 - j) 0 rfl rfl (Nat.zero_le _) ?_
      rintro j hj
      refine W.seq ?_
      refine W.seq ?_
      refine W.region ?_
      refine WL.mv rfl rfl ?_
      refine WL.mv rfl rfl ?_
      refine WL.val rfl (V_lenS (by kernel_rfl) rfl) ?_
      refine WL.val rfl (V_lss rfl rfl) ?_
      refine WL.nil ?_
      refine WQ.then ?_
      refine W.cond_dec rfl (fun g3 => ?_) (fun g3 => ?_)
      ·
        refine W.skip ?_
        refine WQ.then ?_
        refine W.seq ?_
        refine W.block ?_
        refine W.seq ?_
        refine W.region ?_
        refine WL.mv rfl rfl ?_
        refine WL.mv rfl rfl ?_
        have hj10 : j < 10 := by omega
        refine WL.val rfl (V_idxS1 (j) (by kernel_rfl) rfl rfl (by omega) (by omega)) ?_
        refine WL.val rfl (V_loadF (v := .slice (some ⟨B j, 0, none⟩) 16 16) (by kernel_rfl) rfl (by repeat (first | exact At.head | exact AtW.at ‹_› (by simp) | apply At.tail)) (by simp [flat, List.getElem?_append_left, List.getElem?_map, List.getElem?_range, hj10])) ?_
        refine WL.as rfl rfl ?_
        refine WL.nil ?_
        refine WQ.then ?_
        refine W.seq ?_
        refine W.drawn (.q 0 (.q 1 (.q 2 (.q 3 (.q 4 (.q 5 (.q 6 (.q 7 (.q 8 (.q 9 (.q 10 (.q 11 (.q 12 (.l 13 (.done))))))))))))))) ((bm, _) :: rowsL B) (by kernel_rfl) (fun _ a d _ _ h => by cases d <;> exact h) (by kernel_rfl) (by repeat (first | exact List.Sublist.refl _ | exact List.nil_sublist _ | refine List.Sublist.cons_cons _ ?_ | refine List.Sublist.cons _ ?_)) ?_
        rw [show rouF (msgF bl) j (st3 h t last) = colF (msgF bl) (sig j) 0 (rouF (msgF bl) j (st3 h t last)) from rfl]
        refine WD.q rfl rfl (V_move rfl) ?_
        refine WD.q rfl rfl (V_move rfl) ?_
        refine WD.q rfl rfl (V_move rfl) ?_
        refine WD.q rfl rfl (V_idxS1 (0) (by kernel_rfl) rfl rfl (by omega) (by omega)) ?_
        have hsl := sig_len hj10; have q0 := sig_bd j 0; have q1 := sig_bd j 1; have q2 := sig_bd j 2; have q3 := sig_bd j 3; have q4 := sig_bd j 4; have q5 := sig_bd j 5; have q6 := sig_bd j 6; have q7 := sig_bd j 7; have q8 := sig_bd j 8; have q9 := sig_bd j 9; have q10 := sig_bd j 10; have q11 := sig_bd j 11; have q12 := sig_bd j 12; have q13 := sig_bd j 13; have q14 := sig_bd j 14; have q15 := sig_bd j 15
        refine WD.q rfl rfl (V_loadIv (0) (by kernel_rfl) rfl (.inl (.inl ⟨3, List.Mem.tail _ (rowsMem B j hj10)⟩)) rfl (by omega)) ?_
        refine WD.q rfl rfl (V_idxS1 (((sig j).getD 0 0).toNat) (by kernel_rfl) rfl rfl (by omega) (by omega)) ?_
        refine WD.q rfl rfl (V_loadIv (((sig j).getD 0 0).toNat) (by kernel_rfl) rfl (by repeat (first | exact At.head | exact AtW.at ‹_› (by simp) | apply At.tail)) rfl (by first | omega | (rw [msgF_len]; omega) | (rw [st3_len hh]; omega) | (rw [rouF_len, st3_len hh]; omega) | (rw [colF_len, rouF_len, st3_len hh]; omega) | (rw [diaF_len, colF_len, rouF_len, st3_len hh]; omega) | (rw [colF_len, rouF_len, st3_len hh]) | (rw [diaF_len, colF_len, rouF_len, st3_len hh]) | (simp only [List.length_append, List.length_take, List.length_replicate, List.length_drop, msgF_len, finF_len] <;> omega))) ?_
        refine WD.q rfl rfl (V_move rfl) ?_
        refine WD.q rfl rfl (V_move rfl) ?_
        refine WD.q rfl rfl (V_idxS1 (1) (by kernel_rfl) rfl rfl (by omega) (by omega)) ?_
        refine WD.q rfl rfl (V_loadIv (1) (by kernel_rfl) rfl (.inl (.inl ⟨3, List.Mem.tail _ (rowsMem B j hj10)⟩)) rfl (by omega)) ?_
        refine WD.q rfl rfl (V_idxS1 (((sig j).getD 1 0).toNat) (by kernel_rfl) rfl rfl (by omega) (by omega)) ?_
        refine WD.q rfl rfl (V_loadIv (((sig j).getD 1 0).toNat) (by kernel_rfl) rfl (by repeat (first | exact At.head | exact AtW.at ‹_› (by simp) | apply At.tail)) rfl (by first | omega | (rw [msgF_len]; omega) | (rw [st3_len hh]; omega) | (rw [rouF_len, st3_len hh]; omega) | (rw [colF_len, rouF_len, st3_len hh]; omega) | (rw [diaF_len, colF_len, rouF_len, st3_len hh]; omega) | (rw [colF_len, rouF_len, st3_len hh]) | (rw [diaF_len, colF_len, rouF_len, st3_len hh]) | (simp only [List.length_append, List.length_take, List.length_replicate, List.length_drop, msgF_len, finF_len] <;> omega))) ?_
        refine WD.l ?_
        refine WO.cal rfl rfl (List.Sublist.cons_cons _ (List.Sublist.cons _ (List.Sublist.cons _ (List.Sublist.refl _)))) (C_mod _ (by kernel_rfl) rfl (by repeat (first | exact Upd.here _ _ | apply Upd.there)) (fun w hp => rmix_calls b21 16 c21 0 4 8 12 (c21 - 16) (colF (msgF bl) (sig j) 0 (rouF (msgF bl) j (st3 h t last))) r21 _ _ 223 w (hp.held (b21, .cells [(16, iv .u32 (colF (msgF bl) (sig j) 0 (rouF (msgF bl) j (st3 h t last)))), (c21 - 16, r21)] 223) (List.Mem.tail _ (List.Mem.head _))) (by first | omega | (rw [msgF_len]; omega) | (rw [st3_len hh]; omega) | (rw [rouF_len, st3_len hh]; omega) | (rw [colF_len, rouF_len, st3_len hh]; omega) | (rw [diaF_len, colF_len, rouF_len, st3_len hh]; omega) | (rw [colF_len, rouF_len, st3_len hh]) | (rw [diaF_len, colF_len, rouF_len, st3_len hh]) | (simp only [List.length_append, List.length_take, List.length_replicate, List.length_drop, msgF_len, finF_len] <;> omega)) (by decide) (by decide) (by decide) (by decide))) ?_; rintro _ _ ⟨rfl, rfl⟩; refine ⟨fun p hp => (List.mem_cons.1 hp).elim (fun h => h ▸ List.Mem.head _) (fun h => .tail _ (.tail _ (.tail _ h))), ?_⟩; rw [show mixF (colF (msgF bl) (sig j) 0 (rouF (msgF bl) j (st3 h t last))) 0 4 8 12 ((msgF bl).getD ((sig j).getD 0 0).toNat 0) ((msgF bl).getD ((sig j).getD 1 0).toNat 0) = colF (msgF bl) (sig j) 1 (rouF (msgF bl) j (st3 h t last)) from rfl]
        refine WD.done ?_
        refine WQ.then ?_
        refine W.seq ?_
        refine W.drawn (.q 0 (.q 1 (.q 2 (.q 3 (.q 4 (.q 5 (.q 6 (.q 7 (.q 8 (.q 9 (.q 10 (.q 11 (.q 12 (.l 13 (.done))))))))))))))) ((bm, _) :: rowsL B) (by kernel_rfl) (fun _ a d _ _ h => by cases d <;> exact h) (by kernel_rfl) (by repeat (first | exact List.Sublist.refl _ | exact List.nil_sublist _ | refine List.Sublist.cons_cons _ ?_ | refine List.Sublist.cons _ ?_)) ?_
        refine WD.q rfl rfl (V_move rfl) ?_
        refine WD.q rfl rfl (V_move rfl) ?_
        refine WD.q rfl rfl (V_move rfl) ?_
        refine WD.q rfl rfl (V_idxS1 (2) (by kernel_rfl) rfl rfl (by omega) (by omega)) ?_
        refine WD.q rfl rfl (V_loadIv (2) (by kernel_rfl) rfl (.inl (.inl ⟨3, List.Mem.tail _ (rowsMem B j hj10)⟩)) rfl (by omega)) ?_
        refine WD.q rfl rfl (V_idxS1 (((sig j).getD 2 0).toNat) (by kernel_rfl) rfl rfl (by omega) (by omega)) ?_
        refine WD.q rfl rfl (V_loadIv (((sig j).getD 2 0).toNat) (by kernel_rfl) rfl (by repeat (first | exact At.head | exact AtW.at ‹_› (by simp) | apply At.tail)) rfl (by first | omega | (rw [msgF_len]; omega) | (rw [st3_len hh]; omega) | (rw [rouF_len, st3_len hh]; omega) | (rw [colF_len, rouF_len, st3_len hh]; omega) | (rw [diaF_len, colF_len, rouF_len, st3_len hh]; omega) | (rw [colF_len, rouF_len, st3_len hh]) | (rw [diaF_len, colF_len, rouF_len, st3_len hh]) | (simp only [List.length_append, List.length_take, List.length_replicate, List.length_drop, msgF_len, finF_len] <;> omega))) ?_
        refine WD.q rfl rfl (V_move rfl) ?_
        refine WD.q rfl rfl (V_move rfl) ?_
        refine WD.q rfl rfl (V_idxS1 (3) (by kernel_rfl) rfl rfl (by omega) (by omega)) ?_
        refine WD.q rfl rfl (V_loadIv (3) (by kernel_rfl) rfl (.inl (.inl ⟨3, List.Mem.tail _ (rowsMem B j hj10)⟩)) rfl (by omega)) ?_
        refine WD.q rfl rfl (V_idxS1 (((sig j).getD 3 0).toNat) (by kernel_rfl) rfl rfl (by omega) (by omega)) ?_
        refine WD.q rfl rfl (V_loadIv (((sig j).getD 3 0).toNat) (by kernel_rfl) rfl (by repeat (first | exact At.head | exact AtW.at ‹_› (by simp) | apply At.tail)) rfl (by first | omega | (rw [msgF_len]; omega) | (rw [st3_len hh]; omega) | (rw [rouF_len, st3_len hh]; omega) | (rw [colF_len, rouF_len, st3_len hh]; omega) | (rw [diaF_len, colF_len, rouF_len, st3_len hh]; omega) | (rw [colF_len, rouF_len, st3_len hh]) | (rw [diaF_len, colF_len, rouF_len, st3_len hh]) | (simp only [List.length_append, List.length_take, List.length_replicate, List.length_drop, msgF_len, finF_len] <;> omega))) ?_
        refine WD.l ?_
        refine WO.cal rfl rfl (List.Sublist.cons_cons _ (List.Sublist.cons _ (List.Sublist.cons _ (List.Sublist.refl _)))) (C_mod _ (by kernel_rfl) rfl (by repeat (first | exact Upd.here _ _ | apply Upd.there)) (fun w hp => rmix_calls b21 16 c21 1 5 9 13 (c21 - 16) (colF (msgF bl) (sig j) 1 (rouF (msgF bl) j (st3 h t last))) r21 _ _ 223 w (hp.held (b21, .cells [(16, iv .u32 (colF (msgF bl) (sig j) 1 (rouF (msgF bl) j (st3 h t last)))), (c21 - 16, r21)] 223) (List.Mem.tail _ (List.Mem.head _))) (by first | omega | (rw [msgF_len]; omega) | (rw [st3_len hh]; omega) | (rw [rouF_len, st3_len hh]; omega) | (rw [colF_len, rouF_len, st3_len hh]; omega) | (rw [diaF_len, colF_len, rouF_len, st3_len hh]; omega) | (rw [colF_len, rouF_len, st3_len hh]) | (rw [diaF_len, colF_len, rouF_len, st3_len hh]) | (simp only [List.length_append, List.length_take, List.length_replicate, List.length_drop, msgF_len, finF_len] <;> omega)) (by decide) (by decide) (by decide) (by decide))) ?_; rintro _ _ ⟨rfl, rfl⟩; refine ⟨fun p hp => (List.mem_cons.1 hp).elim (fun h => h ▸ List.Mem.head _) (fun h => .tail _ (.tail _ (.tail _ h))), ?_⟩; rw [show mixF (colF (msgF bl) (sig j) 1 (rouF (msgF bl) j (st3 h t last))) 1 5 9 13 ((msgF bl).getD ((sig j).getD 2 0).toNat 0) ((msgF bl).getD ((sig j).getD 3 0).toNat 0) = colF (msgF bl) (sig j) 2 (rouF (msgF bl) j (st3 h t last)) from rfl]
        refine WD.done ?_
        refine WQ.then ?_
        refine W.seq ?_
        refine W.drawn (.q 0 (.q 1 (.q 2 (.q 3 (.q 4 (.q 5 (.q 6 (.q 7 (.q 8 (.q 9 (.q 10 (.q 11 (.q 12 (.l 13 (.done))))))))))))))) ((bm, _) :: rowsL B) (by kernel_rfl) (fun _ a d _ _ h => by cases d <;> exact h) (by kernel_rfl) (by repeat (first | exact List.Sublist.refl _ | exact List.nil_sublist _ | refine List.Sublist.cons_cons _ ?_ | refine List.Sublist.cons _ ?_)) ?_
        refine WD.q rfl rfl (V_move rfl) ?_
        refine WD.q rfl rfl (V_move rfl) ?_
        refine WD.q rfl rfl (V_move rfl) ?_
        refine WD.q rfl rfl (V_idxS1 (4) (by kernel_rfl) rfl rfl (by omega) (by omega)) ?_
        refine WD.q rfl rfl (V_loadIv (4) (by kernel_rfl) rfl (.inl (.inl ⟨3, List.Mem.tail _ (rowsMem B j hj10)⟩)) rfl (by omega)) ?_
        refine WD.q rfl rfl (V_idxS1 (((sig j).getD 4 0).toNat) (by kernel_rfl) rfl rfl (by omega) (by omega)) ?_
        refine WD.q rfl rfl (V_loadIv (((sig j).getD 4 0).toNat) (by kernel_rfl) rfl (by repeat (first | exact At.head | exact AtW.at ‹_› (by simp) | apply At.tail)) rfl (by first | omega | (rw [msgF_len]; omega) | (rw [st3_len hh]; omega) | (rw [rouF_len, st3_len hh]; omega) | (rw [colF_len, rouF_len, st3_len hh]; omega) | (rw [diaF_len, colF_len, rouF_len, st3_len hh]; omega) | (rw [colF_len, rouF_len, st3_len hh]) | (rw [diaF_len, colF_len, rouF_len, st3_len hh]) | (simp only [List.length_append, List.length_take, List.length_replicate, List.length_drop, msgF_len, finF_len] <;> omega))) ?_
        refine WD.q rfl rfl (V_move rfl) ?_
        refine WD.q rfl rfl (V_move rfl) ?_
        refine WD.q rfl rfl (V_idxS1 (5) (by kernel_rfl) rfl rfl (by omega) (by omega)) ?_
        refine WD.q rfl rfl (V_loadIv (5) (by kernel_rfl) rfl (.inl (.inl ⟨3, List.Mem.tail _ (rowsMem B j hj10)⟩)) rfl (by omega)) ?_
        refine WD.q rfl rfl (V_idxS1 (((sig j).getD 5 0).toNat) (by kernel_rfl) rfl rfl (by omega) (by omega)) ?_
        refine WD.q rfl rfl (V_loadIv (((sig j).getD 5 0).toNat) (by kernel_rfl) rfl (by repeat (first | exact At.head | exact AtW.at ‹_› (by simp) | apply At.tail)) rfl (by first | omega | (rw [msgF_len]; omega) | (rw [st3_len hh]; omega) | (rw [rouF_len, st3_len hh]; omega) | (rw [colF_len, rouF_len, st3_len hh]; omega) | (rw [diaF_len, colF_len, rouF_len, st3_len hh]; omega) | (rw [colF_len, rouF_len, st3_len hh]) | (rw [diaF_len, colF_len, rouF_len, st3_len hh]) | (simp only [List.length_append, List.length_take, List.length_replicate, List.length_drop, msgF_len, finF_len] <;> omega))) ?_
        refine WD.l ?_
        refine WO.cal rfl rfl (List.Sublist.cons_cons _ (List.Sublist.cons _ (List.Sublist.cons _ (List.Sublist.refl _)))) (C_mod _ (by kernel_rfl) rfl (by repeat (first | exact Upd.here _ _ | apply Upd.there)) (fun w hp => rmix_calls b21 16 c21 2 6 10 14 (c21 - 16) (colF (msgF bl) (sig j) 2 (rouF (msgF bl) j (st3 h t last))) r21 _ _ 223 w (hp.held (b21, .cells [(16, iv .u32 (colF (msgF bl) (sig j) 2 (rouF (msgF bl) j (st3 h t last)))), (c21 - 16, r21)] 223) (List.Mem.tail _ (List.Mem.head _))) (by first | omega | (rw [msgF_len]; omega) | (rw [st3_len hh]; omega) | (rw [rouF_len, st3_len hh]; omega) | (rw [colF_len, rouF_len, st3_len hh]; omega) | (rw [diaF_len, colF_len, rouF_len, st3_len hh]; omega) | (rw [colF_len, rouF_len, st3_len hh]) | (rw [diaF_len, colF_len, rouF_len, st3_len hh]) | (simp only [List.length_append, List.length_take, List.length_replicate, List.length_drop, msgF_len, finF_len] <;> omega)) (by decide) (by decide) (by decide) (by decide))) ?_; rintro _ _ ⟨rfl, rfl⟩; refine ⟨fun p hp => (List.mem_cons.1 hp).elim (fun h => h ▸ List.Mem.head _) (fun h => .tail _ (.tail _ (.tail _ h))), ?_⟩; rw [show mixF (colF (msgF bl) (sig j) 2 (rouF (msgF bl) j (st3 h t last))) 2 6 10 14 ((msgF bl).getD ((sig j).getD 4 0).toNat 0) ((msgF bl).getD ((sig j).getD 5 0).toNat 0) = colF (msgF bl) (sig j) 3 (rouF (msgF bl) j (st3 h t last)) from rfl]
        refine WD.done ?_
        refine WQ.then ?_
        refine W.seq ?_
        refine W.drawn (.q 0 (.q 1 (.q 2 (.q 3 (.q 4 (.q 5 (.q 6 (.q 7 (.q 8 (.q 9 (.q 10 (.q 11 (.q 12 (.l 13 (.done))))))))))))))) ((bm, _) :: rowsL B) (by kernel_rfl) (fun _ a d _ _ h => by cases d <;> exact h) (by kernel_rfl) (by repeat (first | exact List.Sublist.refl _ | exact List.nil_sublist _ | refine List.Sublist.cons_cons _ ?_ | refine List.Sublist.cons _ ?_)) ?_
        refine WD.q rfl rfl (V_move rfl) ?_
        refine WD.q rfl rfl (V_move rfl) ?_
        refine WD.q rfl rfl (V_move rfl) ?_
        refine WD.q rfl rfl (V_idxS1 (6) (by kernel_rfl) rfl rfl (by omega) (by omega)) ?_
        refine WD.q rfl rfl (V_loadIv (6) (by kernel_rfl) rfl (.inl (.inl ⟨3, List.Mem.tail _ (rowsMem B j hj10)⟩)) rfl (by omega)) ?_
        refine WD.q rfl rfl (V_idxS1 (((sig j).getD 6 0).toNat) (by kernel_rfl) rfl rfl (by omega) (by omega)) ?_
        refine WD.q rfl rfl (V_loadIv (((sig j).getD 6 0).toNat) (by kernel_rfl) rfl (by repeat (first | exact At.head | exact AtW.at ‹_› (by simp) | apply At.tail)) rfl (by first | omega | (rw [msgF_len]; omega) | (rw [st3_len hh]; omega) | (rw [rouF_len, st3_len hh]; omega) | (rw [colF_len, rouF_len, st3_len hh]; omega) | (rw [diaF_len, colF_len, rouF_len, st3_len hh]; omega) | (rw [colF_len, rouF_len, st3_len hh]) | (rw [diaF_len, colF_len, rouF_len, st3_len hh]) | (simp only [List.length_append, List.length_take, List.length_replicate, List.length_drop, msgF_len, finF_len] <;> omega))) ?_
        refine WD.q rfl rfl (V_move rfl) ?_
        refine WD.q rfl rfl (V_move rfl) ?_
        refine WD.q rfl rfl (V_idxS1 (7) (by kernel_rfl) rfl rfl (by omega) (by omega)) ?_
        refine WD.q rfl rfl (V_loadIv (7) (by kernel_rfl) rfl (.inl (.inl ⟨3, List.Mem.tail _ (rowsMem B j hj10)⟩)) rfl (by omega)) ?_
        refine WD.q rfl rfl (V_idxS1 (((sig j).getD 7 0).toNat) (by kernel_rfl) rfl rfl (by omega) (by omega)) ?_
        refine WD.q rfl rfl (V_loadIv (((sig j).getD 7 0).toNat) (by kernel_rfl) rfl (by repeat (first | exact At.head | exact AtW.at ‹_› (by simp) | apply At.tail)) rfl (by first | omega | (rw [msgF_len]; omega) | (rw [st3_len hh]; omega) | (rw [rouF_len, st3_len hh]; omega) | (rw [colF_len, rouF_len, st3_len hh]; omega) | (rw [diaF_len, colF_len, rouF_len, st3_len hh]; omega) | (rw [colF_len, rouF_len, st3_len hh]) | (rw [diaF_len, colF_len, rouF_len, st3_len hh]) | (simp only [List.length_append, List.length_take, List.length_replicate, List.length_drop, msgF_len, finF_len] <;> omega))) ?_
        refine WD.l ?_
        refine WO.cal rfl rfl (List.Sublist.cons_cons _ (List.Sublist.cons _ (List.Sublist.cons _ (List.Sublist.refl _)))) (C_mod _ (by kernel_rfl) rfl (by repeat (first | exact Upd.here _ _ | apply Upd.there)) (fun w hp => rmix_calls b21 16 c21 3 7 11 15 (c21 - 16) (colF (msgF bl) (sig j) 3 (rouF (msgF bl) j (st3 h t last))) r21 _ _ 223 w (hp.held (b21, .cells [(16, iv .u32 (colF (msgF bl) (sig j) 3 (rouF (msgF bl) j (st3 h t last)))), (c21 - 16, r21)] 223) (List.Mem.tail _ (List.Mem.head _))) (by first | omega | (rw [msgF_len]; omega) | (rw [st3_len hh]; omega) | (rw [rouF_len, st3_len hh]; omega) | (rw [colF_len, rouF_len, st3_len hh]; omega) | (rw [diaF_len, colF_len, rouF_len, st3_len hh]; omega) | (rw [colF_len, rouF_len, st3_len hh]) | (rw [diaF_len, colF_len, rouF_len, st3_len hh]) | (simp only [List.length_append, List.length_take, List.length_replicate, List.length_drop, msgF_len, finF_len] <;> omega)) (by decide) (by decide) (by decide) (by decide))) ?_; rintro _ _ ⟨rfl, rfl⟩; refine ⟨fun p hp => (List.mem_cons.1 hp).elim (fun h => h ▸ List.Mem.head _) (fun h => .tail _ (.tail _ (.tail _ h))), ?_⟩; rw [show mixF (colF (msgF bl) (sig j) 3 (rouF (msgF bl) j (st3 h t last))) 3 7 11 15 ((msgF bl).getD ((sig j).getD 6 0).toNat 0) ((msgF bl).getD ((sig j).getD 7 0).toNat 0) = colF (msgF bl) (sig j) 4 (rouF (msgF bl) j (st3 h t last)) from rfl]; rw [show colF (msgF bl) (sig j) 4 (rouF (msgF bl) j (st3 h t last)) = diaF (msgF bl) (sig j) 0 (colF (msgF bl) (sig j) 4 (rouF (msgF bl) j (st3 h t last))) from rfl]
        refine WD.done ?_
        refine WQ.then ?_
        refine W.seq ?_
        refine W.drawn (.q 0 (.q 1 (.q 2 (.q 3 (.q 4 (.q 5 (.q 6 (.q 7 (.q 8 (.q 9 (.q 10 (.q 11 (.q 12 (.l 13 (.done))))))))))))))) ((bm, _) :: rowsL B) (by kernel_rfl) (fun _ a d _ _ h => by cases d <;> exact h) (by kernel_rfl) (by repeat (first | exact List.Sublist.refl _ | exact List.nil_sublist _ | refine List.Sublist.cons_cons _ ?_ | refine List.Sublist.cons _ ?_)) ?_
        refine WD.q rfl rfl (V_move rfl) ?_
        refine WD.q rfl rfl (V_move rfl) ?_
        refine WD.q rfl rfl (V_move rfl) ?_
        refine WD.q rfl rfl (V_idxS1 (8) (by kernel_rfl) rfl rfl (by omega) (by omega)) ?_
        refine WD.q rfl rfl (V_loadIv (8) (by kernel_rfl) rfl (.inl (.inl ⟨3, List.Mem.tail _ (rowsMem B j hj10)⟩)) rfl (by omega)) ?_
        refine WD.q rfl rfl (V_idxS1 (((sig j).getD 8 0).toNat) (by kernel_rfl) rfl rfl (by omega) (by omega)) ?_
        refine WD.q rfl rfl (V_loadIv (((sig j).getD 8 0).toNat) (by kernel_rfl) rfl (by repeat (first | exact At.head | exact AtW.at ‹_› (by simp) | apply At.tail)) rfl (by first | omega | (rw [msgF_len]; omega) | (rw [st3_len hh]; omega) | (rw [rouF_len, st3_len hh]; omega) | (rw [colF_len, rouF_len, st3_len hh]; omega) | (rw [diaF_len, colF_len, rouF_len, st3_len hh]; omega) | (rw [colF_len, rouF_len, st3_len hh]) | (rw [diaF_len, colF_len, rouF_len, st3_len hh]) | (simp only [List.length_append, List.length_take, List.length_replicate, List.length_drop, msgF_len, finF_len] <;> omega))) ?_
        refine WD.q rfl rfl (V_move rfl) ?_
        refine WD.q rfl rfl (V_move rfl) ?_
        refine WD.q rfl rfl (V_idxS1 (9) (by kernel_rfl) rfl rfl (by omega) (by omega)) ?_
        refine WD.q rfl rfl (V_loadIv (9) (by kernel_rfl) rfl (.inl (.inl ⟨3, List.Mem.tail _ (rowsMem B j hj10)⟩)) rfl (by omega)) ?_
        refine WD.q rfl rfl (V_idxS1 (((sig j).getD 9 0).toNat) (by kernel_rfl) rfl rfl (by omega) (by omega)) ?_
        refine WD.q rfl rfl (V_loadIv (((sig j).getD 9 0).toNat) (by kernel_rfl) rfl (by repeat (first | exact At.head | exact AtW.at ‹_› (by simp) | apply At.tail)) rfl (by first | omega | (rw [msgF_len]; omega) | (rw [st3_len hh]; omega) | (rw [rouF_len, st3_len hh]; omega) | (rw [colF_len, rouF_len, st3_len hh]; omega) | (rw [diaF_len, colF_len, rouF_len, st3_len hh]; omega) | (rw [colF_len, rouF_len, st3_len hh]) | (rw [diaF_len, colF_len, rouF_len, st3_len hh]) | (simp only [List.length_append, List.length_take, List.length_replicate, List.length_drop, msgF_len, finF_len] <;> omega))) ?_
        refine WD.l ?_
        refine WO.cal rfl rfl (List.Sublist.cons_cons _ (List.Sublist.cons _ (List.Sublist.cons _ (List.Sublist.refl _)))) (C_mod _ (by kernel_rfl) rfl (by repeat (first | exact Upd.here _ _ | apply Upd.there)) (fun w hp => rmix_calls b21 16 c21 0 5 10 15 (c21 - 16) (diaF (msgF bl) (sig j) 0 (colF (msgF bl) (sig j) 4 (rouF (msgF bl) j (st3 h t last)))) r21 _ _ 223 w (hp.held (b21, .cells [(16, iv .u32 (diaF (msgF bl) (sig j) 0 (colF (msgF bl) (sig j) 4 (rouF (msgF bl) j (st3 h t last))))), (c21 - 16, r21)] 223) (List.Mem.tail _ (List.Mem.head _))) (by first | omega | (rw [msgF_len]; omega) | (rw [st3_len hh]; omega) | (rw [rouF_len, st3_len hh]; omega) | (rw [colF_len, rouF_len, st3_len hh]; omega) | (rw [diaF_len, colF_len, rouF_len, st3_len hh]; omega) | (rw [colF_len, rouF_len, st3_len hh]) | (rw [diaF_len, colF_len, rouF_len, st3_len hh]) | (simp only [List.length_append, List.length_take, List.length_replicate, List.length_drop, msgF_len, finF_len] <;> omega)) (by decide) (by decide) (by decide) (by decide))) ?_; rintro _ _ ⟨rfl, rfl⟩; refine ⟨fun p hp => (List.mem_cons.1 hp).elim (fun h => h ▸ List.Mem.head _) (fun h => .tail _ (.tail _ (.tail _ h))), ?_⟩; rw [show mixF (diaF (msgF bl) (sig j) 0 (colF (msgF bl) (sig j) 4 (rouF (msgF bl) j (st3 h t last)))) 0 5 10 15 ((msgF bl).getD ((sig j).getD 8 0).toNat 0) ((msgF bl).getD ((sig j).getD 9 0).toNat 0) = diaF (msgF bl) (sig j) 1 (colF (msgF bl) (sig j) 4 (rouF (msgF bl) j (st3 h t last))) from rfl]
        refine WD.done ?_
        refine WQ.then ?_
        refine W.seq ?_
        refine W.drawn (.q 0 (.q 1 (.q 2 (.q 3 (.q 4 (.q 5 (.q 6 (.q 7 (.q 8 (.q 9 (.q 10 (.q 11 (.q 12 (.l 13 (.done))))))))))))))) ((bm, _) :: rowsL B) (by kernel_rfl) (fun _ a d _ _ h => by cases d <;> exact h) (by kernel_rfl) (by repeat (first | exact List.Sublist.refl _ | exact List.nil_sublist _ | refine List.Sublist.cons_cons _ ?_ | refine List.Sublist.cons _ ?_)) ?_
        refine WD.q rfl rfl (V_move rfl) ?_
        refine WD.q rfl rfl (V_move rfl) ?_
        refine WD.q rfl rfl (V_move rfl) ?_
        refine WD.q rfl rfl (V_idxS1 (10) (by kernel_rfl) rfl rfl (by omega) (by omega)) ?_
        refine WD.q rfl rfl (V_loadIv (10) (by kernel_rfl) rfl (.inl (.inl ⟨3, List.Mem.tail _ (rowsMem B j hj10)⟩)) rfl (by omega)) ?_
        refine WD.q rfl rfl (V_idxS1 (((sig j).getD 10 0).toNat) (by kernel_rfl) rfl rfl (by omega) (by omega)) ?_
        refine WD.q rfl rfl (V_loadIv (((sig j).getD 10 0).toNat) (by kernel_rfl) rfl (by repeat (first | exact At.head | exact AtW.at ‹_› (by simp) | apply At.tail)) rfl (by first | omega | (rw [msgF_len]; omega) | (rw [st3_len hh]; omega) | (rw [rouF_len, st3_len hh]; omega) | (rw [colF_len, rouF_len, st3_len hh]; omega) | (rw [diaF_len, colF_len, rouF_len, st3_len hh]; omega) | (rw [colF_len, rouF_len, st3_len hh]) | (rw [diaF_len, colF_len, rouF_len, st3_len hh]) | (simp only [List.length_append, List.length_take, List.length_replicate, List.length_drop, msgF_len, finF_len] <;> omega))) ?_
        refine WD.q rfl rfl (V_move rfl) ?_
        refine WD.q rfl rfl (V_move rfl) ?_
        refine WD.q rfl rfl (V_idxS1 (11) (by kernel_rfl) rfl rfl (by omega) (by omega)) ?_
        refine WD.q rfl rfl (V_loadIv (11) (by kernel_rfl) rfl (.inl (.inl ⟨3, List.Mem.tail _ (rowsMem B j hj10)⟩)) rfl (by omega)) ?_
        refine WD.q rfl rfl (V_idxS1 (((sig j).getD 11 0).toNat) (by kernel_rfl) rfl rfl (by omega) (by omega)) ?_
        refine WD.q rfl rfl (V_loadIv (((sig j).getD 11 0).toNat) (by kernel_rfl) rfl (by repeat (first | exact At.head | exact AtW.at ‹_› (by simp) | apply At.tail)) rfl (by first | omega | (rw [msgF_len]; omega) | (rw [st3_len hh]; omega) | (rw [rouF_len, st3_len hh]; omega) | (rw [colF_len, rouF_len, st3_len hh]; omega) | (rw [diaF_len, colF_len, rouF_len, st3_len hh]; omega) | (rw [colF_len, rouF_len, st3_len hh]) | (rw [diaF_len, colF_len, rouF_len, st3_len hh]) | (simp only [List.length_append, List.length_take, List.length_replicate, List.length_drop, msgF_len, finF_len] <;> omega))) ?_
        refine WD.l ?_
        refine WO.cal rfl rfl (List.Sublist.cons_cons _ (List.Sublist.cons _ (List.Sublist.cons _ (List.Sublist.refl _)))) (C_mod _ (by kernel_rfl) rfl (by repeat (first | exact Upd.here _ _ | apply Upd.there)) (fun w hp => rmix_calls b21 16 c21 1 6 11 12 (c21 - 16) (diaF (msgF bl) (sig j) 1 (colF (msgF bl) (sig j) 4 (rouF (msgF bl) j (st3 h t last)))) r21 _ _ 223 w (hp.held (b21, .cells [(16, iv .u32 (diaF (msgF bl) (sig j) 1 (colF (msgF bl) (sig j) 4 (rouF (msgF bl) j (st3 h t last))))), (c21 - 16, r21)] 223) (List.Mem.tail _ (List.Mem.head _))) (by first | omega | (rw [msgF_len]; omega) | (rw [st3_len hh]; omega) | (rw [rouF_len, st3_len hh]; omega) | (rw [colF_len, rouF_len, st3_len hh]; omega) | (rw [diaF_len, colF_len, rouF_len, st3_len hh]; omega) | (rw [colF_len, rouF_len, st3_len hh]) | (rw [diaF_len, colF_len, rouF_len, st3_len hh]) | (simp only [List.length_append, List.length_take, List.length_replicate, List.length_drop, msgF_len, finF_len] <;> omega)) (by decide) (by decide) (by decide) (by decide))) ?_; rintro _ _ ⟨rfl, rfl⟩; refine ⟨fun p hp => (List.mem_cons.1 hp).elim (fun h => h ▸ List.Mem.head _) (fun h => .tail _ (.tail _ (.tail _ h))), ?_⟩; rw [show mixF (diaF (msgF bl) (sig j) 1 (colF (msgF bl) (sig j) 4 (rouF (msgF bl) j (st3 h t last)))) 1 6 11 12 ((msgF bl).getD ((sig j).getD 10 0).toNat 0) ((msgF bl).getD ((sig j).getD 11 0).toNat 0) = diaF (msgF bl) (sig j) 2 (colF (msgF bl) (sig j) 4 (rouF (msgF bl) j (st3 h t last))) from rfl]
        refine WD.done ?_
        refine WQ.then ?_
        refine W.seq ?_
        refine W.drawn (.q 0 (.q 1 (.q 2 (.q 3 (.q 4 (.q 5 (.q 6 (.q 7 (.q 8 (.q 9 (.q 10 (.q 11 (.q 12 (.l 13 (.done))))))))))))))) ((bm, _) :: rowsL B) (by kernel_rfl) (fun _ a d _ _ h => by cases d <;> exact h) (by kernel_rfl) (by repeat (first | exact List.Sublist.refl _ | exact List.nil_sublist _ | refine List.Sublist.cons_cons _ ?_ | refine List.Sublist.cons _ ?_)) ?_
        refine WD.q rfl rfl (V_move rfl) ?_
        refine WD.q rfl rfl (V_move rfl) ?_
        refine WD.q rfl rfl (V_move rfl) ?_
        refine WD.q rfl rfl (V_idxS1 (12) (by kernel_rfl) rfl rfl (by omega) (by omega)) ?_
        refine WD.q rfl rfl (V_loadIv (12) (by kernel_rfl) rfl (.inl (.inl ⟨3, List.Mem.tail _ (rowsMem B j hj10)⟩)) rfl (by omega)) ?_
        refine WD.q rfl rfl (V_idxS1 (((sig j).getD 12 0).toNat) (by kernel_rfl) rfl rfl (by omega) (by omega)) ?_
        refine WD.q rfl rfl (V_loadIv (((sig j).getD 12 0).toNat) (by kernel_rfl) rfl (by repeat (first | exact At.head | exact AtW.at ‹_› (by simp) | apply At.tail)) rfl (by first | omega | (rw [msgF_len]; omega) | (rw [st3_len hh]; omega) | (rw [rouF_len, st3_len hh]; omega) | (rw [colF_len, rouF_len, st3_len hh]; omega) | (rw [diaF_len, colF_len, rouF_len, st3_len hh]; omega) | (rw [colF_len, rouF_len, st3_len hh]) | (rw [diaF_len, colF_len, rouF_len, st3_len hh]) | (simp only [List.length_append, List.length_take, List.length_replicate, List.length_drop, msgF_len, finF_len] <;> omega))) ?_
        refine WD.q rfl rfl (V_move rfl) ?_
        refine WD.q rfl rfl (V_move rfl) ?_
        refine WD.q rfl rfl (V_idxS1 (13) (by kernel_rfl) rfl rfl (by omega) (by omega)) ?_
        refine WD.q rfl rfl (V_loadIv (13) (by kernel_rfl) rfl (.inl (.inl ⟨3, List.Mem.tail _ (rowsMem B j hj10)⟩)) rfl (by omega)) ?_
        refine WD.q rfl rfl (V_idxS1 (((sig j).getD 13 0).toNat) (by kernel_rfl) rfl rfl (by omega) (by omega)) ?_
        refine WD.q rfl rfl (V_loadIv (((sig j).getD 13 0).toNat) (by kernel_rfl) rfl (by repeat (first | exact At.head | exact AtW.at ‹_› (by simp) | apply At.tail)) rfl (by first | omega | (rw [msgF_len]; omega) | (rw [st3_len hh]; omega) | (rw [rouF_len, st3_len hh]; omega) | (rw [colF_len, rouF_len, st3_len hh]; omega) | (rw [diaF_len, colF_len, rouF_len, st3_len hh]; omega) | (rw [colF_len, rouF_len, st3_len hh]) | (rw [diaF_len, colF_len, rouF_len, st3_len hh]) | (simp only [List.length_append, List.length_take, List.length_replicate, List.length_drop, msgF_len, finF_len] <;> omega))) ?_
        refine WD.l ?_
        refine WO.cal rfl rfl (List.Sublist.cons_cons _ (List.Sublist.cons _ (List.Sublist.cons _ (List.Sublist.refl _)))) (C_mod _ (by kernel_rfl) rfl (by repeat (first | exact Upd.here _ _ | apply Upd.there)) (fun w hp => rmix_calls b21 16 c21 2 7 8 13 (c21 - 16) (diaF (msgF bl) (sig j) 2 (colF (msgF bl) (sig j) 4 (rouF (msgF bl) j (st3 h t last)))) r21 _ _ 223 w (hp.held (b21, .cells [(16, iv .u32 (diaF (msgF bl) (sig j) 2 (colF (msgF bl) (sig j) 4 (rouF (msgF bl) j (st3 h t last))))), (c21 - 16, r21)] 223) (List.Mem.tail _ (List.Mem.head _))) (by first | omega | (rw [msgF_len]; omega) | (rw [st3_len hh]; omega) | (rw [rouF_len, st3_len hh]; omega) | (rw [colF_len, rouF_len, st3_len hh]; omega) | (rw [diaF_len, colF_len, rouF_len, st3_len hh]; omega) | (rw [colF_len, rouF_len, st3_len hh]) | (rw [diaF_len, colF_len, rouF_len, st3_len hh]) | (simp only [List.length_append, List.length_take, List.length_replicate, List.length_drop, msgF_len, finF_len] <;> omega)) (by decide) (by decide) (by decide) (by decide))) ?_; rintro _ _ ⟨rfl, rfl⟩; refine ⟨fun p hp => (List.mem_cons.1 hp).elim (fun h => h ▸ List.Mem.head _) (fun h => .tail _ (.tail _ (.tail _ h))), ?_⟩; rw [show mixF (diaF (msgF bl) (sig j) 2 (colF (msgF bl) (sig j) 4 (rouF (msgF bl) j (st3 h t last)))) 2 7 8 13 ((msgF bl).getD ((sig j).getD 12 0).toNat 0) ((msgF bl).getD ((sig j).getD 13 0).toNat 0) = diaF (msgF bl) (sig j) 3 (colF (msgF bl) (sig j) 4 (rouF (msgF bl) j (st3 h t last))) from rfl]
        refine WD.done ?_
        refine WQ.then ?_
        refine W.drawn (.q 0 (.q 1 (.q 2 (.q 3 (.q 4 (.q 5 (.q 6 (.q 7 (.q 8 (.q 9 (.q 10 (.q 11 (.q 12 (.l 13 (.done))))))))))))))) ((bm, _) :: rowsL B) (by kernel_rfl) (fun _ a d _ _ h => by cases d <;> exact h) (by kernel_rfl) (by repeat (first | exact List.Sublist.refl _ | exact List.nil_sublist _ | refine List.Sublist.cons_cons _ ?_ | refine List.Sublist.cons _ ?_)) ?_
        refine WD.q rfl rfl (V_move rfl) ?_
        refine WD.q rfl rfl (V_move rfl) ?_
        refine WD.q rfl rfl (V_move rfl) ?_
        refine WD.q rfl rfl (V_idxS1 (14) (by kernel_rfl) rfl rfl (by omega) (by omega)) ?_
        refine WD.q rfl rfl (V_loadIv (14) (by kernel_rfl) rfl (.inl (.inl ⟨3, List.Mem.tail _ (rowsMem B j hj10)⟩)) rfl (by omega)) ?_
        refine WD.q rfl rfl (V_idxS1 (((sig j).getD 14 0).toNat) (by kernel_rfl) rfl rfl (by omega) (by omega)) ?_
        refine WD.q rfl rfl (V_loadIv (((sig j).getD 14 0).toNat) (by kernel_rfl) rfl (by repeat (first | exact At.head | exact AtW.at ‹_› (by simp) | apply At.tail)) rfl (by first | omega | (rw [msgF_len]; omega) | (rw [st3_len hh]; omega) | (rw [rouF_len, st3_len hh]; omega) | (rw [colF_len, rouF_len, st3_len hh]; omega) | (rw [diaF_len, colF_len, rouF_len, st3_len hh]; omega) | (rw [colF_len, rouF_len, st3_len hh]) | (rw [diaF_len, colF_len, rouF_len, st3_len hh]) | (simp only [List.length_append, List.length_take, List.length_replicate, List.length_drop, msgF_len, finF_len] <;> omega))) ?_
        refine WD.q rfl rfl (V_move rfl) ?_
        refine WD.q rfl rfl (V_move rfl) ?_
        refine WD.q rfl rfl (V_idxS1 (15) (by kernel_rfl) rfl rfl (by omega) (by omega)) ?_
        refine WD.q rfl rfl (V_loadIv (15) (by kernel_rfl) rfl (.inl (.inl ⟨3, List.Mem.tail _ (rowsMem B j hj10)⟩)) rfl (by omega)) ?_
        refine WD.q rfl rfl (V_idxS1 (((sig j).getD 15 0).toNat) (by kernel_rfl) rfl rfl (by omega) (by omega)) ?_
        refine WD.q rfl rfl (V_loadIv (((sig j).getD 15 0).toNat) (by kernel_rfl) rfl (by repeat (first | exact At.head | exact AtW.at ‹_› (by simp) | apply At.tail)) rfl (by first | omega | (rw [msgF_len]; omega) | (rw [st3_len hh]; omega) | (rw [rouF_len, st3_len hh]; omega) | (rw [colF_len, rouF_len, st3_len hh]; omega) | (rw [diaF_len, colF_len, rouF_len, st3_len hh]; omega) | (rw [colF_len, rouF_len, st3_len hh]) | (rw [diaF_len, colF_len, rouF_len, st3_len hh]) | (simp only [List.length_append, List.length_take, List.length_replicate, List.length_drop, msgF_len, finF_len] <;> omega))) ?_
        refine WD.l ?_
        refine WO.cal rfl rfl (List.Sublist.cons_cons _ (List.Sublist.cons _ (List.Sublist.cons _ (List.Sublist.refl _)))) (C_mod _ (by kernel_rfl) rfl (by repeat (first | exact Upd.here _ _ | apply Upd.there)) (fun w hp => rmix_calls b21 16 c21 3 4 9 14 (c21 - 16) (diaF (msgF bl) (sig j) 3 (colF (msgF bl) (sig j) 4 (rouF (msgF bl) j (st3 h t last)))) r21 _ _ 223 w (hp.held (b21, .cells [(16, iv .u32 (diaF (msgF bl) (sig j) 3 (colF (msgF bl) (sig j) 4 (rouF (msgF bl) j (st3 h t last))))), (c21 - 16, r21)] 223) (List.Mem.tail _ (List.Mem.head _))) (by first | omega | (rw [msgF_len]; omega) | (rw [st3_len hh]; omega) | (rw [rouF_len, st3_len hh]; omega) | (rw [colF_len, rouF_len, st3_len hh]; omega) | (rw [diaF_len, colF_len, rouF_len, st3_len hh]; omega) | (rw [colF_len, rouF_len, st3_len hh]) | (rw [diaF_len, colF_len, rouF_len, st3_len hh]) | (simp only [List.length_append, List.length_take, List.length_replicate, List.length_drop, msgF_len, finF_len] <;> omega)) (by decide) (by decide) (by decide) (by decide))) ?_; rintro _ _ ⟨rfl, rfl⟩; refine ⟨fun p hp => (List.mem_cons.1 hp).elim (fun h => h ▸ List.Mem.head _) (fun h => .tail _ (.tail _ (.tail _ h))), ?_⟩; rw [show mixF (diaF (msgF bl) (sig j) 3 (colF (msgF bl) (sig j) 4 (rouF (msgF bl) j (st3 h t last)))) 3 4 9 14 ((msgF bl).getD ((sig j).getD 14 0).toNat 0) ((msgF bl).getD ((sig j).getD 15 0).toNat 0) = diaF (msgF bl) (sig j) 4 (colF (msgF bl) (sig j) 4 (rouF (msgF bl) j (st3 h t last))) from rfl]
        refine WD.done ?_
        refine WQ.block_normal ?_
        refine WQ.then ?_
        refine W.region ?_
        refine WL.mv rfl rfl ?_
        first | refine WL.val rfl (V_addN rfl rfl (by omega)) ?_ | refine WL.val rfl (V_add rfl rfl) ?_
        refine WL.as rfl rfl ?_
        refine WL.nil ?_
        exact WQ.again (j + 1) [0, 9, 10, 12, 13] (by show j + 1 ≤ 10; omega) (by show 10 - (j + 1) < 10 - j; omega) rfl (List.Sublist.refl _)
      ·
        refine W.exit ?_
        refine WQ.then_exit ?_
        refine WQ.then_exit ?_
        refine WQ.block_hit ?_
        refine WQ.then ?_
        refine W.seq ?_
        refine W.region ?_
        refine WL.as rfl rfl ?_
        refine WL.nil ?_
        refine WQ.then ?_
        refine W.seq ?_
        refine W.seq ?_
        refine W.region ?_
        refine WL.as rfl rfl ?_
        refine WL.nil ?_
        refine WQ.then ?_
        refine W.block ?_
        -- LOOP
        obtain rfl : j = 10 := by omega
        refine W.pick [0, 9, 15, 16] rfl ?_
        refine W.sub (L' := [(b21, .cells [(16, iv .u32 (rouF (msgF bl) 10 (st3 h t last))), (c21 - 16, r21)] 223)]) (by repeat (first | exact List.Sublist.refl _ | exact List.nil_sublist _ | refine List.Sublist.cons_cons _ ?_ | refine List.Sublist.cons _ ?_)) ?_
        refine W.loop (σ := Option (Nat × Nat × Nat × List Value)) (fun s => match s with | none => True | some q => 1 ≤ q.1 ∧ q.1 ≤ 8 ∧ q.1 ≤ q.2.2.1) (fun s => match s with | none => [(0, .slice (some ⟨ab, ao, none⟩) 8 hcap), (9, .slice (some ⟨b21, 0, none⟩) 16 c21), (15, .slice none 0 0), (16, .int .i64 0)] | some q => [(0, .slice (some ⟨ab, ao, none⟩) 8 hcap), (9, .slice (some ⟨b21, 0, none⟩) 16 c21), (15, .slice (some ⟨q.2.1, 0, none⟩) q.1 q.2.2.1), (16, .int .i64 q.1)]) (fun s => match s with | none => [(b21, .cells [(16, iv .u32 (rouF (msgF bl) 10 (st3 h t last))), (c21 - 16, r21)] 223)] | some q => [(q.2.1, .cells [(q.1, iv .u32 ((finF h (rouF (msgF bl) 10 (st3 h t last))).take q.1)), (q.2.2.1 - q.1, q.2.2.2)] 223), (b21, .cells [(16, iv .u32 (rouF (msgF bl) 10 (st3 h t last))), (c21 - 16, r21)] 223)]) (fun s => match s with | none => 9 | some q => 8 - q.1) none rfl rfl trivial ?_
        rintro (_ | ⟨i, bo, co, ro⟩) hi
        ·
          dsimp only at hi ⊢
          refine W.seq ?_
          refine W.seq ?_
          refine W.region ?_
          refine WL.mv rfl rfl ?_
          refine WL.val rfl (V_lss rfl rfl) ?_
          refine WL.nil ?_
          refine WQ.then ?_
          refine W.cond_true rfl (by decide) ?_
          refine W.skip ?_
          refine WQ.then ?_
          refine W.seq ?_
          refine W.block ?_
          refine W.drawn (.q 0 (.q 1 (.q 2 (.q 3 (.q 4 (.q 5 (.q 6 (.q 7 (.q 8 (.q 9 (.q 10 (.q 11 (.q 12 (.q 13 (.q 14 (.q 15 (.l 16 (.l 17 (.q 18 (.done)))))))))))))))))))) [(b21, _)] (by kernel_rfl) (fun _ a d _ _ h => by cases d <;> exact h) (by kernel_rfl) (by repeat (first | exact List.Sublist.refl _ | exact List.nil_sublist _ | refine List.Sublist.cons_cons _ ?_ | refine List.Sublist.cons _ ?_)) ?_
          refine WD.q rfl rfl (V_move rfl) ?_
          refine WD.q rfl rfl (V_move rfl) ?_
          refine WD.q rfl rfl (V_move rfl) ?_
          refine WD.q rfl rfl (V_indexAddrS 1 (by kernel_rfl) rfl rfl (by omega) (by omega)) ?_
          refine WD.q rfl rfl (V_loadSrI (0) hh0.old0 (by kernel_rfl) rfl (by simp) (by omega)) ?_
          refine WD.q rfl rfl (V_move rfl) ?_
          refine WD.q rfl rfl (V_move rfl) ?_
          refine WD.q rfl rfl (V_idxS1 (0) (by kernel_rfl) rfl rfl (by omega) (by omega)) ?_
          refine WD.q rfl rfl (V_loadIv (0) (by kernel_rfl) rfl (by repeat (first | exact At.head | exact AtW.at ‹_› (by simp) | apply At.tail)) rfl (by first | omega | (rw [msgF_len]; omega) | (rw [st3_len hh]; omega) | (rw [rouF_len, st3_len hh]; omega) | (rw [colF_len, rouF_len, st3_len hh]; omega) | (rw [diaF_len, colF_len, rouF_len, st3_len hh]; omega) | (rw [colF_len, rouF_len, st3_len hh]) | (rw [diaF_len, colF_len, rouF_len, st3_len hh]) | (simp only [List.length_append, List.length_take, List.length_replicate, List.length_drop, msgF_len, finF_len] <;> omega))) ?_
          refine WD.q rfl rfl (V_xor rfl rfl) ?_
          refine WD.q rfl rfl (V_move rfl) ?_
          refine WD.q rfl rfl (V_move rfl) ?_
          first | refine WD.q rfl rfl (V_addN rfl rfl (by omega)) ?_ | refine WD.q rfl rfl (V_add rfl rfl) ?_
          refine WD.q rfl rfl (V_idxS1 (0 + 8) (by kernel_rfl) rfl rfl (by omega) (by omega)) ?_
          refine WD.q rfl rfl (V_loadIv (0 + 8) (by kernel_rfl) rfl (by repeat (first | exact At.head | exact AtW.at ‹_› (by simp) | apply At.tail)) rfl (by first | omega | (rw [msgF_len]; omega) | (rw [st3_len hh]; omega) | (rw [rouF_len, st3_len hh]; omega) | (rw [colF_len, rouF_len, st3_len hh]; omega) | (rw [diaF_len, colF_len, rouF_len, st3_len hh]; omega) | (rw [colF_len, rouF_len, st3_len hh]) | (rw [diaF_len, colF_len, rouF_len, st3_len hh]) | (simp only [List.length_append, List.length_take, List.length_replicate, List.length_drop, msgF_len, finF_len] <;> omega))) ?_
          refine WD.q rfl rfl (V_xor rfl rfl) ?_
          refine WD.l ?_
          refine WO.eff rfl rfl (by repeat (first | exact List.Sublist.refl _ | exact List.nil_sublist _ | refine List.Sublist.cons_cons _ ?_ | refine List.Sublist.cons _ ?_)) (E_bslice 223 4 (by kernel_rfl) rfl rfl (by simp [one]) (by decide)) ?_; rintro _ _ ⟨b206, rfl, rfl⟩; refine ⟨by simp, ?_⟩
          refine WD.l ?_
          refine WO.eff rfl rfl (by repeat (first | exact List.Sublist.refl _ | exact List.nil_sublist _ | refine List.Sublist.cons_cons _ ?_ | refine List.Sublist.cons _ ?_)) (E_appendN 223 4 (by kernel_rfl) rfl rfl (by first | exact SrW.nil.old0 | exact SrW.old0 ‹_› | exact Sr.own (by repeat (first | exact At.head | exact At.headR | apply At.tail)) (by first | exact iv_one | simp [one]) | exact Sr.all (by repeat (first | exact At.head | exact At.headR | apply At.tail)) (by first | exact iv_one | simp [one])) (by omega) (by omega) (by omega)) ?_; rintro _ _ ⟨b207, c207, r207, h207, rfl, rfl⟩; refine ⟨by simp, ?_⟩
          refine WD.q rfl rfl (V_assign rfl) ?_
          refine WD.done ?_
          refine WQ.block_normal ?_
          refine WQ.then ?_
          refine W.region ?_
          refine WL.mv rfl rfl ?_
          first | refine WL.val rfl (V_addN rfl rfl (by omega)) ?_ | refine WL.val rfl (V_add rfl rfl) ?_
          refine WL.as rfl rfl ?_
          refine WL.nil ?_
          rw [show [Value.int .u32 _] = iv .u32 ((finF h (rouF (msgF bl) 10 (st3 h t last))).take 1) from finApp (i := 0) (by decide)]
          exact WQ.again (some (1, b207, c207, r207)) [0, 9, 15, 16] (by refine ⟨by show 1 ≤ 1; decide, by show 1 ≤ 8; decide, by show 1 ≤ c207; omega⟩) (by show 8 - 1 < 9; decide) rfl (by repeat (first | exact List.Sublist.refl _ | exact List.nil_sublist _ | refine List.Sublist.cons_cons _ ?_ | refine List.Sublist.cons _ ?_))
        ·
          dsimp only at hi ⊢
          refine W.seq ?_
          refine W.seq ?_
          refine W.region ?_
          refine WL.mv rfl rfl ?_
          refine WL.val rfl (V_lss rfl rfl) ?_
          refine WL.nil ?_
          refine WQ.then ?_
          refine W.cond_dec rfl (fun g4 => ?_) (fun g4 => ?_)
          ·
            refine W.skip ?_
            refine WQ.then ?_
            refine W.seq ?_
            refine W.block ?_
            refine W.drawn (.q 0 (.q 1 (.q 2 (.q 3 (.q 4 (.q 5 (.q 6 (.q 7 (.q 8 (.q 9 (.q 10 (.q 11 (.q 12 (.q 13 (.q 14 (.q 15 (.l 16 (.l 17 (.q 18 (.done)))))))))))))))))))) [(b21, _)] (by kernel_rfl) (fun _ a d _ _ h => by cases d <;> exact h) (by kernel_rfl) (by repeat (first | exact List.Sublist.refl _ | exact List.nil_sublist _ | refine List.Sublist.cons_cons _ ?_ | refine List.Sublist.cons _ ?_)) ?_
            refine WD.q rfl rfl (V_move rfl) ?_
            refine WD.q rfl rfl (V_move rfl) ?_
            refine WD.q rfl rfl (V_move rfl) ?_
            refine WD.q rfl rfl (V_indexAddrS 1 (by kernel_rfl) rfl rfl (by omega) (by omega)) ?_
            refine WD.q rfl rfl (V_loadSrI (i) hh0.old0 (by kernel_rfl) rfl (by simp) (by omega)) ?_
            refine WD.q rfl rfl (V_move rfl) ?_
            refine WD.q rfl rfl (V_move rfl) ?_
            refine WD.q rfl rfl (V_idxS1 (i) (by kernel_rfl) rfl rfl (by omega) (by omega)) ?_
            refine WD.q rfl rfl (V_loadIv (i) (by kernel_rfl) rfl (by repeat (first | exact At.head | exact AtW.at ‹_› (by simp) | apply At.tail)) rfl (by first | omega | (rw [msgF_len]; omega) | (rw [st3_len hh]; omega) | (rw [rouF_len, st3_len hh]; omega) | (rw [colF_len, rouF_len, st3_len hh]; omega) | (rw [diaF_len, colF_len, rouF_len, st3_len hh]; omega) | (rw [colF_len, rouF_len, st3_len hh]) | (rw [diaF_len, colF_len, rouF_len, st3_len hh]) | (simp only [List.length_append, List.length_take, List.length_replicate, List.length_drop, msgF_len, finF_len] <;> omega))) ?_
            refine WD.q rfl rfl (V_xor rfl rfl) ?_
            refine WD.q rfl rfl (V_move rfl) ?_
            refine WD.q rfl rfl (V_move rfl) ?_
            first | refine WD.q rfl rfl (V_addN rfl rfl (by omega)) ?_ | refine WD.q rfl rfl (V_add rfl rfl) ?_
            refine WD.q rfl rfl (V_idxS1 (i + 8) (by kernel_rfl) rfl rfl (by omega) (by omega)) ?_
            refine WD.q rfl rfl (V_loadIv (i + 8) (by kernel_rfl) rfl (by repeat (first | exact At.head | exact AtW.at ‹_› (by simp) | apply At.tail)) rfl (by first | omega | (rw [msgF_len]; omega) | (rw [st3_len hh]; omega) | (rw [rouF_len, st3_len hh]; omega) | (rw [colF_len, rouF_len, st3_len hh]; omega) | (rw [diaF_len, colF_len, rouF_len, st3_len hh]; omega) | (rw [colF_len, rouF_len, st3_len hh]) | (rw [diaF_len, colF_len, rouF_len, st3_len hh]) | (simp only [List.length_append, List.length_take, List.length_replicate, List.length_drop, msgF_len, finF_len] <;> omega))) ?_
            refine WD.q rfl rfl (V_xor rfl rfl) ?_
            refine WD.l ?_
            refine WO.eff rfl rfl (by repeat (first | exact List.Sublist.refl _ | exact List.nil_sublist _ | refine List.Sublist.cons_cons _ ?_ | refine List.Sublist.cons _ ?_)) (E_bslice 223 4 (by kernel_rfl) rfl rfl (by simp [one]) (by decide)) ?_; rintro _ _ ⟨b206, rfl, rfl⟩; refine ⟨by simp, ?_⟩
            refine WD.l ?_
            refine WO.eff rfl rfl (by repeat (first | exact List.Sublist.refl _ | exact List.nil_sublist _ | refine List.Sublist.cons_cons _ ?_ | refine List.Sublist.cons _ ?_)) (E_append 223 4 (by kernel_rfl) rfl rfl (by omega) (by repeat (first | exact Del.here _ | apply Del.there)) (by first | exact SrW.nil.old0 | exact SrW.old0 ‹_› | exact Sr.own (by repeat (first | exact At.head | exact At.headR | apply At.tail)) (by first | exact iv_one | simp [one]) | exact Sr.all (by repeat (first | exact At.head | exact At.headR | apply At.tail)) (by first | exact iv_one | simp [one])) (by omega) (by omega)) ?_; rintro _ _ ⟨b207, c207, r207, h207, rfl, rfl⟩; refine ⟨by simp, ?_⟩
            refine WD.q rfl rfl (V_assign rfl) ?_
            refine WD.done ?_
            refine WQ.block_normal ?_
            refine WQ.then ?_
            refine W.region ?_
            refine WL.mv rfl rfl ?_
            first | refine WL.val rfl (V_addN rfl rfl (by omega)) ?_ | refine WL.val rfl (V_add rfl rfl) ?_
            refine WL.as rfl rfl ?_
            refine WL.nil ?_
            rw [finApp (by omega)]
            exact WQ.again (some (i + 1, b207, c207, r207)) [0, 9, 15, 16] (by refine ⟨by show 1 ≤ i + 1; omega, by show i + 1 ≤ 8; omega, by show i + 1 ≤ c207; omega⟩) (by show 8 - (i + 1) < 8 - i; omega) rfl (by repeat (first | exact List.Sublist.refl _ | exact List.nil_sublist _ | refine List.Sublist.cons_cons _ ?_ | refine List.Sublist.cons _ ?_))
          ·
            refine W.exit ?_
            refine WQ.then_exit ?_
            refine WQ.then_exit ?_
            refine WQ.block_hit ?_
            refine WQ.then ?_
            refine W.seq ?_
            refine W.region ?_
            refine WL.mv rfl rfl ?_
            refine WL.as rfl rfl ?_
            refine WL.nil ?_
            refine WQ.then ?_
            refine W.ret ?_
            refine WQ.ret1 Tryz.results145 (.tmp rfl) ?_
            intro w' hp; obtain rfl : i = 8 := by omega
            rw [List.take_of_length_le (by rw [finF_len]; omega)] at hp; exact ⟨(bo, co, ro), hi.2.2, rfl, hp.sub (by repeat (first | exact List.Sublist.refl _ | exact List.nil_sublist _ | refine List.Sublist.cons_cons _ ?_ | refine List.Sublist.cons _ ?_))⟩

end Go.Proofs.YtmeckbjinmgbbaaGreat