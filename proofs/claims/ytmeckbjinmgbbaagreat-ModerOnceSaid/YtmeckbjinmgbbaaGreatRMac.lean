/- BLAKE2s: the tag of bytes by a key, by the document's answer. -/
import Derived.Test.YtmeckbjinmgbbaaGreatMac
set_option linter.unusedVariables false
set_option linter.unusedSimpArgs false

namespace Go.Proofs.YtmeckbjinmgbbaaGreat
open Go.X
theorem h0F_r {n : Nat} : firstL.set 0 (xorI .u32 (xorI .u32 (firstL.getD 0 0) 16842784) (IntKind.u32.wrap (IntKind.u32.wrap (n : Int) * 256))) = h0F n := by
  rw [h0F, xorI_assoc]; rfl

theorem rfilled_calls (A : Option Addr) (n cap : Nat) (l : List Int) (w : World) (hs : SrW w 1 A n (iv .u8 l)) (hn : n ≤ 64) :
    Calls Tryz.prog 144 [.slice A n cap].toArray w fun e w' => ∃ q : Nat × Nat × List Value, 64 ≤ q.2.1 ∧ e = .returned (.slice (some ⟨q.1, 0, none⟩) 64 q.2.1) ∧ HP w w' [] [(q.1, .cells [(64, iv .u8 (l ++ List.replicate (64 - n) 0)), (q.2.1 - 64, q.2.2)] 5)] := by
  refine calls_of_W Tryz.func144 rfl Tryz.ntmps144 rfl rfl (HP.refl w []) ?_
  refine W.seq ?_
  refine W.region ?_
  refine WL.as rfl rfl ?_
  refine WL.nil ?_
  refine WQ.then ?_
  refine W.seq ?_
  refine W.region ?_
  refine WL.bslice 5 1 rfl (by kernel_rfl) rfl rfl (by simp [one]) (by decide) ?_; intro b3
  refine WL.mv rfl rfl ?_
  refine WL.append 5 1 rfl (by kernel_rfl) rfl rfl (by omega) (by repeat (first | exact Del.here _ | apply Del.there)) (by first | exact SrW.nil.old0 | exact SrW.old0 ‹_› | exact Sr.own (by repeat (first | exact At.head | exact At.headR | apply At.tail)) (by first | exact iv_one | simp [one]) | exact Sr.all (by repeat (first | exact At.head | exact At.headR | apply At.tail)) (by first | exact iv_one | simp [one])) (by omega) (by omega) ?_; intro b5 c5 r5 h5
  refine WL.mv rfl rfl ?_
  refine WL.val rfl (V_lenS (by kernel_rfl) rfl) ?_
  first | refine WL.val rfl (V_subN rfl rfl (by omega)) ?_ | refine WL.val rfl (V_sub rfl rfl) ?_
  refine WL.appendZ (m := 64 - n) 5 1 (.int .u8 0) rfl rfl (by kernel_rfl) (by kernel_rfl) ⟨by kernel_rfl, by repeat (first | exact Fit.nil | refine Fit.mk (by first | rfl | (simp; done) | (simp [iv_len]; done) | simp [iv_len, *]) ?_)⟩ rfl rfl (by first | rfl | omega) (by omega) (by repeat (first | exact Del.here _ | apply Del.there)) (by omega) (by omega) (by omega) ?_; intro b9 c9 r9 h9
  refine WL.as rfl rfl ?_
  refine WL.nil ?_
  refine WQ.then ?_
  refine W.ret ?_
  refine WQ.ret1 Tryz.results144 (.tmp rfl) ?_
  intro w' hp; have e : 0 + n + (64 - n) = 64 := by omega
  rw [e] at hp h9 ⊢; rw [List.nil_append, iv_rep, iv_app] at hp; exact ⟨(b9, c9, r9), h9, rfl, hp.sub (by repeat (first | exact List.Sublist.refl _ | exact List.nil_sublist _ | refine List.Sublist.cons_cons _ ?_ | refine List.Sublist.cons _ ?_))⟩

set_option maxHeartbeats 2000000 in
theorem rmac_c (A BA : Option Addr) (n kcap m bcap : Nat) (kl bl : List Int) (w : World) (hk : SrW w 1 A n (iv .u8 kl)) (hkb : bytes kl) (hkc : n ≤ kcap) (hk32 : n ≤ 32) (hb0 : SrW w 1 BA m (iv .u8 bl)) (hbb : bytes bl) (hbc : m ≤ bcap) (hm : m ≤ 4000000) (h0 : 0 < n) :
    Calls Tryz.prog 131 [.slice A n kcap, .slice BA m bcap].toArray w fun e w' => e = .returned (.tuple #[AG [(32, iv .u8 (macF kl bl))], .int .i64 0]) ∧ HP w w' [] [] := by
  have hkl : kl.length = n := by have := hk.1; rw [iv_len] at this; omega
  have hbl : bl.length = m := by have := hb0.1; rw [iv_len] at this; omega
  have hal : (padK kl ++ bl).length = 64 + m := by rw [List.length_append, padK_len (by omega), hbl]
  have hab := (padK_bytes hkb).app hbb
  have hkn : kl ≠ [] := by intro h; subst h; simp at hkl; omega
  have hk2 := hk
  refine calls_of_W Tryz.func131 rfl Tryz.ntmps131 rfl rfl (HP.refl w []) ?_
  refine W.seq ?_
  refine W.region ?_
  refine WL.new rfl (E_alloc (zs := [(32, List.replicate 32 (.int .u8 0))]) ⟨by kernel_rfl, by repeat (first | exact Fit.nil | refine Fit.mk (by first | rfl | (simp; done) | (simp [iv_len]; done) | simp [iv_len, *]) ?_)⟩) ?_; intro b4
  refine WL.as rfl rfl ?_
  refine WL.nil ?_
  refine WQ.then ?_
  refine W.seq ?_
  refine W.seq ?_
  refine W.region ?_
  refine WL.mv rfl rfl ?_
  refine WL.val rfl (V_lenS (by kernel_rfl) rfl) ?_
  refine WL.val rfl (V_gtr rfl rfl) ?_
  refine WL.nil ?_
  refine WQ.then ?_
  refine W.cond_false rfl (decide_eq_false (by omega)) ?_
  refine W.skip ?_
  refine WQ.then ?_
  refine W.seq ?_
  refine W.region ?_
  refine WL.call [] (fun r => .slice (some ⟨r, 0, none⟩) 8 8) (fun r => [(r, .cells [(8, iv .u32 firstL), (8 - 8, [])] 223)]) (fun _ => True) rfl (by kernel_rfl) rfl (.nil _) (fun w hp => rfirst_calls w) ?_; intro b15 _
  refine WL.as rfl rfl ?_
  refine WL.nil ?_
  refine WQ.then ?_
  refine W.seq ?_
  refine W.region ?_
  refine WL.mv rfl rfl ?_
  refine WL.mv rfl rfl ?_
  refine WL.val rfl (V_idxS1 (0) (by kernel_rfl) rfl rfl (by rfl) (by decide)) ?_
  refine WL.val rfl (V_loadIv 0 (by kernel_rfl) rfl (by repeat (first | exact At.head | exact AtW.at ‹_› (by simp) | apply At.tail)) rfl (by decide)) ?_
  refine WL.val rfl (V_xor rfl rfl) ?_
  refine WL.mv rfl rfl ?_
  refine WL.val rfl (V_lenS (by kernel_rfl) rfl) ?_
  refine WL.val rfl (V_conv (k' := .u32) rfl (by kernel_rfl) (by kernel_rfl)) ?_
  refine WL.val rfl (V_mul rfl rfl) ?_
  refine WL.val rfl (V_xor rfl rfl) ?_
  refine WL.val rfl (V_idxS1 (0) (by kernel_rfl) rfl rfl (by rfl) (by decide)) ?_
  refine WL.storeIv 0 (by kernel_rfl) rfl rfl (by repeat (first | exact Upd.here _ _ | apply Upd.there)) rfl (by decide) ?_; rw [h0F_r]
  refine WL.nil ?_
  refine WQ.then ?_
  refine W.seq ?_
  refine W.region ?_
  refine WL.as rfl rfl ?_
  refine WL.nil ?_
  refine WQ.then ?_
  refine W.seq ?_
  refine W.seq ?_
  refine W.region ?_
  refine WL.mv rfl rfl ?_
  refine WL.val rfl (V_lenS (by kernel_rfl) rfl) ?_
  refine WL.val rfl (V_gtr rfl rfl) ?_
  refine WL.nil ?_
  refine WQ.then ?_
  refine W.cond_true rfl (decide_eq_true (by omega)) ?_
  refine W.region ?_
  refine WL.mv rfl rfl ?_
  refine WL.call [] (fun (q : Nat × Nat × List Value) => .slice (some ⟨q.1, 0, none⟩) 64 q.2.1) (fun q => [(q.1, .cells [(64, iv .u8 (kl ++ List.replicate (64 - (n)) 0)), (q.2.1 - 64, q.2.2)] 5)]) (fun q => 64 ≤ q.2.1) rfl (by kernel_rfl) rfl (.nil _) (fun w hp => rfilled_calls _ _ _ (kl) w (hk2.step hp (by simp)) (by omega)) ?_; rintro ⟨b31, c31, r31⟩ h31; dsimp only at h31 ⊢
  refine WL.as rfl rfl ?_
  refine WL.nil ?_
  refine WQ.then ?_
  refine W.seq ?_
  refine W.region ?_
  refine WL.mv rfl rfl ?_
  refine WL.mv rfl rfl ?_
  refine WL.append 5 1 rfl (by kernel_rfl) rfl rfl (by omega) (by repeat (first | exact Del.here _ | apply Del.there)) hb0.old0 (by omega) (by omega) ?_; intro b34 c34 r34 h34
  refine WL.as rfl rfl ?_
  refine WL.nil ?_
  refine WQ.then ?_
  refine W.seq ?_
  refine W.region ?_
  refine WL.as rfl rfl ?_
  refine WL.nil ?_
  refine WQ.then ?_
  refine W.seq ?_
  refine W.block ?_
  -- LOOP
  rw [iv_app, show kl ++ List.replicate (64 - n) 0 = padK kl from by rw [padK, hkl]]
  refine W.pick [4, 6, 7, 8] rfl ?_
  refine W.sub (L' := [(b34, .cells [(64 + m, iv .u8 (padK kl ++ bl)), (c34 - (64 + m), r34)] 5), (b15, .cells [(8, iv .u32 (h0F n)), (8 - 8, [])] 223), (b4, .cells [(32, List.replicate 32 (.int .u8 0))] 23)]) (by repeat (first | exact List.Sublist.refl _ | exact List.nil_sublist _ | refine List.Sublist.cons_cons _ ?_ | refine List.Sublist.cons _ ?_)) ?_
  rw [show h0F n = goF (h0F kl.length) (padK kl ++ bl)  0 from by rw [← hkl]; rfl]
  refine W.loop (σ := Nat × Nat × Nat × List Value) (fun s => (s.1 = 0 ∨ 64 * s.1 < 64 + m) ∧ 8 ≤ s.2.2.1) (fun s => [(4, .pointer (some ⟨b4, 0, none⟩)), (6, .slice (some ⟨s.2.1, 0, none⟩) 8 s.2.2.1), (7, .slice (some ⟨b34, 0, none⟩) (64 + m) c34), (8, .int .i64 (64 * s.1 : Nat))]) (fun s => [(b34, .cells [(64 + m, iv .u8 (padK kl ++ bl)), (c34 - (64 + m), r34)] 5), (s.2.1, .cells [(8, iv .u32 (goF (h0F kl.length) (padK kl ++ bl)  s.1)), (s.2.2.1 - 8, s.2.2.2)] 223), (b4, .cells [(32, List.replicate 32 (.int .u8 0))] 23)]) (fun s => 64 + m - 64 * s.1) (0, b15, 8, []) rfl rfl ⟨.inl rfl, Nat.le_refl _⟩ ?_
  rintro ⟨i, bh, ch, rh⟩ hi; dsimp only at hi ⊢
  refine W.seq ?_
  refine W.seq ?_
  refine W.region ?_
  refine WL.mv rfl rfl ?_
  refine WL.val rfl (V_lenS (by kernel_rfl) rfl) ?_
  refine WL.mv rfl rfl ?_
  first | refine WL.val rfl (V_subN rfl rfl (by omega)) ?_ | refine WL.val rfl (V_sub rfl rfl) ?_
  refine WL.val rfl (V_gtr rfl rfl) ?_
  refine WL.nil ?_
  refine WQ.then ?_
  refine W.cond_dec rfl (fun g1 => ?_) (fun g1 => ?_)
  ·
    refine W.skip ?_
    refine WQ.then ?_
    refine W.block ?_
    refine W.seq ?_
    refine W.region ?_
    refine WL.mv rfl rfl ?_
    refine WL.mv rfl rfl ?_
    refine WL.mv rfl rfl ?_
    refine WL.mv rfl rfl ?_
    first | refine WL.val rfl (V_addN rfl rfl (by omega)) ?_ | refine WL.val rfl (V_add rfl rfl) ?_
    refine WL.val rfl (V_sliceN (s := 1) (l := 64 * i) (h := 64 * i + 64) 64 (c34 - 64 * i) (by kernel_rfl) rfl (.yes rfl rfl) (.yes rfl (by omega)) (by omega) (by omega) (by omega) (by omega)) ?_
    refine WL.mv rfl rfl ?_
    first | refine WL.val rfl (V_addN rfl rfl (by omega)) ?_ | refine WL.val rfl (V_add rfl rfl) ?_
    refine WL.call [] (fun (q : Nat × Nat × List Value) => .slice (some ⟨q.1, 0, none⟩) 8 q.2.1) (fun q => [(q.1, .cells [(8, iv .u32 (intoF (goF (h0F kl.length) (padK kl ++ bl) i) (((padK kl ++ bl).drop (64 * i)).take 64) (((64 * i : Nat) : Int) + 64) false)), (q.2.1 - 8, q.2.2)] 223)]) (fun q => 8 ≤ q.2.1) rfl (by kernel_rfl) rfl (.nil _) (fun w hp => rinto_calls _ _ _ _ (goF (h0F kl.length) (padK kl ++ bl) i) (((padK kl ++ bl).drop (64 * i)).take 64) _ false w (Sr.own (by repeat (first | exact At.head | exact At.headR | apply At.tail)) iv_one w hp) (goF_len h0F_len i) hi.2 (by have := (Sr.part (o := 64 * i) (m := 64) (by repeat (first | exact At.head | exact At.headR | apply At.tail)) iv_one (by omega)) w hp; rw [iv_drop, iv_take] at this; simpa using this) ((hab.drop _).take _) (by omega) (by omega) (by omega)) ?_; rintro ⟨b48, c48, r48⟩ h48; dsimp only at h48 ⊢
    refine WL.as rfl rfl ?_
    refine WL.nil ?_
    refine WQ.then ?_
    refine W.region ?_
    refine WL.mv rfl rfl ?_
    first | refine WL.val rfl (V_addN rfl rfl (by omega)) ?_ | refine WL.val rfl (V_add rfl rfl) ?_
    refine WL.as rfl rfl ?_
    refine WL.nil ?_
    refine WQ.block_normal ?_
    refine WQ.perm (List.Perm.swap _ _ _) ?_
    exact WQ.again (i + 1, b48, c48, r48) [4, 6, 7, 8] (by refine ⟨?_, h48⟩; show i + 1 = 0 ∨ 64 * (i + 1) < 64 + m; omega) (by show 64 + m - 64 * (i + 1) < 64 + m - 64 * i; omega) rfl (by repeat (first | exact List.Sublist.refl _ | exact List.nil_sublist _ | refine List.Sublist.cons_cons _ ?_ | refine List.Sublist.cons _ ?_))
  ·
    refine W.exit ?_
    refine WQ.then_exit ?_
    refine WQ.then_exit ?_
    refine WQ.block_hit ?_
    refine WQ.then ?_
    refine W.seq ?_
    refine W.region ?_
    refine WL.mv rfl rfl ?_
    refine WL.mv rfl rfl ?_
    refine WL.mv rfl rfl ?_
    refine WL.val rfl (V_sliceN (s := 1) (l := 64 * i) (h := 64 + m) (64 + m - 64 * i) (c34 - 64 * i) (by kernel_rfl) rfl (.yes rfl rfl) .no (by omega) (by omega) (by omega) (by omega)) ?_
    refine WL.call [] (fun (q : Nat × Nat × List Value) => .slice (some ⟨q.1, 0, none⟩) 64 q.2.1) (fun q => [(q.1, .cells [(64, iv .u8 ((padK kl ++ bl).drop (64 * i) ++ List.replicate (64 - (64 + m - 64 * i)) 0)), (q.2.1 - 64, q.2.2)] 5)]) (fun q => 64 ≤ q.2.1) rfl (by kernel_rfl) rfl (.nil _) (fun w hp => rfilled_calls _ _ _ ((padK kl ++ bl).drop (64 * i)) w (by have := (Sr.part (o := 64 * i) (m := 64 + m - 64 * i) (by repeat (first | exact At.head | exact At.headR | apply At.tail)) iv_one (by omega)) w hp; rw [iv_drop, iv_take] at this; rw [List.take_of_length_le (by rw [List.length_drop]; omega)] at this; simpa using this) (by omega)) ?_; rintro ⟨b55, c55, r55⟩ h55; dsimp only at h55 ⊢; rw [show (padK kl ++ bl).drop (64 * i) ++ List.replicate (64 - (64 + m - 64 * i)) 0 = lastL (padK kl ++ bl) i from by rw [lastL, hal]]
    refine WL.mv rfl rfl ?_
    refine WL.val rfl (V_lenS (by kernel_rfl) rfl) ?_
    refine WL.call [] (fun (q : Nat × Nat × List Value) => .slice (some ⟨q.1, 0, none⟩) 8 q.2.1) (fun q => [(q.1, .cells [(8, iv .u32 (intoF (goF (h0F kl.length) (padK kl ++ bl) i) (lastL (padK kl ++ bl) i) (((64 + m : Nat) : Int)) true)), (q.2.1 - 8, q.2.2)] 223)]) (fun q => 8 ≤ q.2.1) rfl (by kernel_rfl) rfl (.nil _) (fun w hp => rinto_calls _ _ _ _ (goF (h0F kl.length) (padK kl ++ bl) i) (lastL (padK kl ++ bl) i) _ true w (Sr.own (by repeat (first | exact At.head | exact At.headR | apply At.tail)) iv_one w hp) (goF_len h0F_len i) hi.2 (Sr.own (by repeat (first | exact At.head | exact At.headR | apply At.tail)) iv_one w hp) (lastL_bytes hab i) (by omega) (by omega) (by omega)) ?_; rintro ⟨bh2, ch2, rh2⟩ hh2; dsimp only at hh2 ⊢
    refine WL.as rfl rfl ?_
    refine WL.nil ?_
    refine WQ.then ?_
    refine W.seq ?_
    refine W.region ?_
    refine WL.new rfl (E_alloc (zs := [(32, List.replicate 32 (.int .u8 0))]) ⟨by kernel_rfl, by repeat (first | exact Fit.nil | refine Fit.mk (by first | rfl | (simp; done) | (simp [iv_len]; done) | simp [iv_len, *]) ?_)⟩) ?_; intro b9
    refine WL.nil ?_
    refine WQ.then ?_
    refine W.seq ?_
    refine W.seq ?_
    refine W.region ?_
    refine WL.as rfl rfl ?_
    refine WL.nil ?_
    refine WQ.then ?_
    refine W.block ?_
    -- LOOP
    rw [iv_rep]
    refine W.pick [4, 6, 9, 10] rfl ?_
    refine W.sub (L' := [(b9, .cells [(32, iv .u8 (List.replicate 32 0))] 23), (bh2, .cells [(8, iv .u32 (intoF (goF (h0F kl.length) (padK kl ++ bl)  i) (lastL (padK kl ++ bl) i) ((64 + m : Nat) : Int) true)), (ch2 - 8, rh2)] 223), (b4, .cells [(32, iv .u8 (List.replicate 32 0))] 23)]) (by repeat (first | exact List.Sublist.refl _ | exact List.nil_sublist _ | refine List.Sublist.cons_cons _ ?_ | refine List.Sublist.cons _ ?_)) ?_
    refine W.loop (σ := Nat) (fun j => j ≤ 32) (fun j => [(4, .pointer (some ⟨b4, 0, none⟩)), (6, .slice (some ⟨bh2, 0, none⟩) 8 ch2), (9, .pointer (some ⟨b9, 0, none⟩)), (10, .int .i64 (j : Nat))]) (fun j => [(b9, .cells [(32, iv .u8 ((outF (intoF (goF (h0F kl.length) (padK kl ++ bl)  i) (lastL (padK kl ++ bl) i) ((64 + m : Nat) : Int) true)).take j ++ List.replicate (32 - j) 0))] 23), (bh2, .cells [(8, iv .u32 (intoF (goF (h0F kl.length) (padK kl ++ bl)  i) (lastL (padK kl ++ bl) i) ((64 + m : Nat) : Int) true)), (ch2 - 8, rh2)] 223), (b4, .cells [(32, iv .u8 (List.replicate 32 0))] 23)]) (fun j => 32 - j) 0 rfl rfl (Nat.zero_le _) ?_
    rintro j hj
    refine W.seq ?_
    refine W.seq ?_
    refine W.region ?_
    have hHF : (intoF (goF (h0F kl.length) (padK kl ++ bl)  i) (lastL (padK kl ++ bl) i) ((64 + m : Nat) : Int) true).length = 8 := intoF_len
    refine WL.mv rfl rfl ?_
    refine WL.val rfl (V_lss rfl rfl) ?_
    refine WL.nil ?_
    refine WQ.then ?_
    refine W.cond_dec rfl (fun g2 => ?_) (fun g2 => ?_)
    ·
      refine W.skip ?_
      refine WQ.then ?_
      refine W.seq ?_
      refine W.block ?_
      refine W.region ?_
      refine WL.mv rfl rfl ?_
      refine WL.mv rfl rfl ?_
      refine WL.mv rfl rfl ?_
      first | refine WL.val rfl (V_quoN rfl rfl (by omega) (by omega) (by omega)) ?_ | refine WL.val rfl (V_quo rfl rfl (by omega)) ?_
      refine WL.val rfl (V_idxS1 (j / 4) (by kernel_rfl) rfl rfl (by omega) (by omega)) ?_
      refine WL.val rfl (V_loadIv (j / 4) (by kernel_rfl) rfl (by repeat (first | exact At.head | exact AtW.at ‹_› (by simp) | apply At.tail)) rfl (by rw [hHF]; omega)) ?_
      refine WL.mv rfl rfl ?_
      first | refine WL.val rfl (V_remN rfl rfl (by omega) (by omega)) ?_ | refine WL.val rfl (V_rem rfl rfl (by omega)) ?_
      first | refine WL.val rfl (V_mulN rfl rfl (by omega)) ?_ | refine WL.val rfl (V_mul rfl rfl) ?_
      refine WL.val rfl (V_shr rfl rfl (by omega)) ?_
      refine WL.val rfl (V_conv (k' := .u8) rfl (by kernel_rfl) (by kernel_rfl)) ?_
      refine WL.val rfl (V_idxA1 (n := 32) (j) (by kernel_rfl) rfl rfl (by omega) (by omega)) ?_
      refine WL.storeIv j (by kernel_rfl) rfl rfl (by repeat (first | exact Upd.here _ _ | apply Upd.there)) rfl (by simp [outF_len]; omega) ?_; rw [show (8 * ((j : Int) % 4)) = ((j % 4 : Nat) : Int) * 8 from by omega, outStep (by omega)]
      refine WL.nil ?_
      refine WQ.block_normal ?_
      refine WQ.then ?_
      refine W.region ?_
      refine WL.mv rfl rfl ?_
      first | refine WL.val rfl (V_addN rfl rfl (by omega)) ?_ | refine WL.val rfl (V_add rfl rfl) ?_
      refine WL.as rfl rfl ?_
      refine WL.nil ?_
      exact WQ.again (j + 1) [4, 6, 9, 10] (by show j + 1 ≤ 32; omega) (by show 32 - (j + 1) < 32 - j; omega) rfl (by repeat (first | exact List.Sublist.refl _ | exact List.nil_sublist _ | refine List.Sublist.cons_cons _ ?_ | refine List.Sublist.cons _ ?_))
    ·
      refine W.exit ?_
      refine WQ.then_exit ?_
      refine WQ.then_exit ?_
      refine WQ.block_hit ?_
      refine WQ.then ?_
      refine W.seq ?_
      refine W.region ?_
      have hj : j = 32 := by omega
      subst hj; rw [show (outF (intoF (goF (h0F kl.length) (padK kl ++ bl)  i) (lastL (padK kl ++ bl) i) ((64 + m : Nat) : Int) true)).take 32 ++ List.replicate (32 - 32) 0 = macF kl bl from by rw [List.take_of_length_le (by rw [outF_len]; omega)]; simp only [Nat.sub_self, List.replicate_zero, List.append_nil]; exact (macEnd hal (by omega) (by rw [allF, if_neg hkn]))]; have hml : (macF kl bl).length = 32 := macF_len
      refine WL.val rfl (V_loadA 32 (by kernel_rfl) rfl (by repeat (first | exact At.head | exact AtW.at ‹_› (by simp) | apply At.tail)) (by rfl)) ?_
      refine WL.storeA 32 (by kernel_rfl) rfl rfl (by first | rfl | (simp [flat]; done) | (simp [flat, iv_len]; done) | simp [flat, iv_len, *]) (by repeat (first | exact Fit.nil | refine Fit.mk (by first | rfl | (simp; done) | (simp [iv_len]; done) | simp [iv_len, *]) ?_)) (by first | (simp [flat, one]; done) | simp [flat, iv, one]) (by repeat (first | exact Upd.here _ _ | apply Upd.there)) (by rfl) ?_
      refine WL.as rfl rfl ?_
      refine WL.nil ?_
      refine WQ.then ?_
      refine W.ret ?_
      refine WQ.ret2 Tryz.results131 (.cellA 32 (by kernel_rfl) rfl (by repeat (first | exact At.head | exact AtW.at ‹_› (by simp) | apply At.tail)) (by rfl)) (.tmp rfl) ?_
      intro w' hp; exact ⟨rfl, hp.forget⟩

set_option maxHeartbeats 2000000 in
theorem rmac_b (A BA : Option Addr) (n kcap m bcap : Nat) (kl bl : List Int) (w : World) (hk : SrW w 1 A n (iv .u8 kl)) (hkb : bytes kl) (hkc : n ≤ kcap) (hk32 : n ≤ 32) (hb0 : SrW w 1 BA m (iv .u8 bl)) (hbb : bytes bl) (hbc : m ≤ bcap) (hm : m ≤ 4000000) (h0 : n = 0) (h1 : 0 < m) :
    Calls Tryz.prog 131 [.slice A n kcap, .slice BA m bcap].toArray w fun e w' => e = .returned (.tuple #[AG [(32, iv .u8 (macF kl bl))], .int .i64 0]) ∧ HP w w' [] [] := by
  have hkl : kl.length = n := by have := hk.1; rw [iv_len] at this; omega
  have hbl : bl.length = m := by have := hb0.1; rw [iv_len] at this; omega
  have hal : bl.length = m := hbl
  have hab := hbb
  have hkn : kl = [] := List.length_eq_zero_iff.1 (by omega)
  refine calls_of_W Tryz.func131 rfl Tryz.ntmps131 rfl rfl (HP.refl w []) ?_
  refine W.seq ?_
  refine W.region ?_
  refine WL.new rfl (E_alloc (zs := [(32, List.replicate 32 (.int .u8 0))]) ⟨by kernel_rfl, by repeat (first | exact Fit.nil | refine Fit.mk (by first | rfl | (simp; done) | (simp [iv_len]; done) | simp [iv_len, *]) ?_)⟩) ?_; intro b4
  refine WL.as rfl rfl ?_
  refine WL.nil ?_
  refine WQ.then ?_
  refine W.seq ?_
  refine W.seq ?_
  refine W.region ?_
  refine WL.mv rfl rfl ?_
  refine WL.val rfl (V_lenS (by kernel_rfl) rfl) ?_
  refine WL.val rfl (V_gtr rfl rfl) ?_
  refine WL.nil ?_
  refine WQ.then ?_
  refine W.cond_false rfl (decide_eq_false (by omega)) ?_
  refine W.skip ?_
  refine WQ.then ?_
  refine W.seq ?_
  refine W.region ?_
  refine WL.call [] (fun r => .slice (some ⟨r, 0, none⟩) 8 8) (fun r => [(r, .cells [(8, iv .u32 firstL), (8 - 8, [])] 223)]) (fun _ => True) rfl (by kernel_rfl) rfl (.nil _) (fun w hp => rfirst_calls w) ?_; intro b15 _
  refine WL.as rfl rfl ?_
  refine WL.nil ?_
  refine WQ.then ?_
  refine W.seq ?_
  refine W.region ?_
  refine WL.mv rfl rfl ?_
  refine WL.mv rfl rfl ?_
  refine WL.val rfl (V_idxS1 (0) (by kernel_rfl) rfl rfl (by rfl) (by decide)) ?_
  refine WL.val rfl (V_loadIv 0 (by kernel_rfl) rfl (by repeat (first | exact At.head | exact AtW.at ‹_› (by simp) | apply At.tail)) rfl (by decide)) ?_
  refine WL.val rfl (V_xor rfl rfl) ?_
  refine WL.mv rfl rfl ?_
  refine WL.val rfl (V_lenS (by kernel_rfl) rfl) ?_
  refine WL.val rfl (V_conv (k' := .u32) rfl (by kernel_rfl) (by kernel_rfl)) ?_
  refine WL.val rfl (V_mul rfl rfl) ?_
  refine WL.val rfl (V_xor rfl rfl) ?_
  refine WL.val rfl (V_idxS1 (0) (by kernel_rfl) rfl rfl (by rfl) (by decide)) ?_
  refine WL.storeIv 0 (by kernel_rfl) rfl rfl (by repeat (first | exact Upd.here _ _ | apply Upd.there)) rfl (by decide) ?_; rw [h0F_r]
  refine WL.nil ?_
  refine WQ.then ?_
  refine W.seq ?_
  refine W.region ?_
  refine WL.as rfl rfl ?_
  refine WL.nil ?_
  refine WQ.then ?_
  refine W.seq ?_
  refine W.seq ?_
  refine W.region ?_
  refine WL.mv rfl rfl ?_
  refine WL.val rfl (V_lenS (by kernel_rfl) rfl) ?_
  refine WL.val rfl (V_gtr rfl rfl) ?_
  refine WL.nil ?_
  refine WQ.then ?_
  refine W.cond_false rfl (decide_eq_false (by omega)) ?_
  refine W.skip ?_
  refine WQ.then ?_
  refine W.seq ?_
  refine W.region ?_
  refine WL.mv rfl rfl ?_
  refine WL.mv rfl rfl ?_
  refine WL.appendN 5 1 rfl (by kernel_rfl) rfl rfl hb0.old0 (by omega) (by omega) (by omega) ?_; intro b34 c34 r34 h34
  refine WL.as rfl rfl ?_
  refine WL.nil ?_
  refine WQ.then ?_
  refine W.seq ?_
  refine W.region ?_
  refine WL.as rfl rfl ?_
  refine WL.nil ?_
  refine WQ.then ?_
  refine W.seq ?_
  refine W.block ?_
  -- LOOP
  refine W.pick [4, 6, 7, 8] rfl ?_
  refine W.sub (L' := [(b34, .cells [(m, iv .u8 (bl)), (c34 - (m), r34)] 5), (b15, .cells [(8, iv .u32 (h0F n)), (8 - 8, [])] 223), (b4, .cells [(32, List.replicate 32 (.int .u8 0))] 23)]) (by repeat (first | exact List.Sublist.refl _ | exact List.nil_sublist _ | refine List.Sublist.cons_cons _ ?_ | refine List.Sublist.cons _ ?_)) ?_
  rw [show h0F n = goF (h0F kl.length) (bl)  0 from by rw [← hkl]; rfl]
  refine W.loop (σ := Nat × Nat × Nat × List Value) (fun s => (s.1 = 0 ∨ 64 * s.1 < m) ∧ 8 ≤ s.2.2.1) (fun s => [(4, .pointer (some ⟨b4, 0, none⟩)), (6, .slice (some ⟨s.2.1, 0, none⟩) 8 s.2.2.1), (7, .slice (some ⟨b34, 0, none⟩) (m) c34), (8, .int .i64 (64 * s.1 : Nat))]) (fun s => [(b34, .cells [(m, iv .u8 (bl)), (c34 - (m), r34)] 5), (s.2.1, .cells [(8, iv .u32 (goF (h0F kl.length) (bl)  s.1)), (s.2.2.1 - 8, s.2.2.2)] 223), (b4, .cells [(32, List.replicate 32 (.int .u8 0))] 23)]) (fun s => m - 64 * s.1) (0, b15, 8, []) rfl rfl ⟨.inl rfl, Nat.le_refl _⟩ ?_
  rintro ⟨i, bh, ch, rh⟩ hi; dsimp only at hi ⊢
  refine W.seq ?_
  refine W.seq ?_
  refine W.region ?_
  refine WL.mv rfl rfl ?_
  refine WL.val rfl (V_lenS (by kernel_rfl) rfl) ?_
  refine WL.mv rfl rfl ?_
  first | refine WL.val rfl (V_subN rfl rfl (by omega)) ?_ | refine WL.val rfl (V_sub rfl rfl) ?_
  refine WL.val rfl (V_gtr rfl rfl) ?_
  refine WL.nil ?_
  refine WQ.then ?_
  refine W.cond_dec rfl (fun g1 => ?_) (fun g1 => ?_)
  ·
    refine W.skip ?_
    refine WQ.then ?_
    refine W.block ?_
    refine W.seq ?_
    refine W.region ?_
    refine WL.mv rfl rfl ?_
    refine WL.mv rfl rfl ?_
    refine WL.mv rfl rfl ?_
    refine WL.mv rfl rfl ?_
    first | refine WL.val rfl (V_addN rfl rfl (by omega)) ?_ | refine WL.val rfl (V_add rfl rfl) ?_
    refine WL.val rfl (V_sliceN (s := 1) (l := 64 * i) (h := 64 * i + 64) 64 (c34 - 64 * i) (by kernel_rfl) rfl (.yes rfl rfl) (.yes rfl (by omega)) (by omega) (by omega) (by omega) (by omega)) ?_
    refine WL.mv rfl rfl ?_
    first | refine WL.val rfl (V_addN rfl rfl (by omega)) ?_ | refine WL.val rfl (V_add rfl rfl) ?_
    refine WL.call [] (fun (q : Nat × Nat × List Value) => .slice (some ⟨q.1, 0, none⟩) 8 q.2.1) (fun q => [(q.1, .cells [(8, iv .u32 (intoF (goF (h0F kl.length) (bl) i) (((bl).drop (64 * i)).take 64) (((64 * i : Nat) : Int) + 64) false)), (q.2.1 - 8, q.2.2)] 223)]) (fun q => 8 ≤ q.2.1) rfl (by kernel_rfl) rfl (.nil _) (fun w hp => rinto_calls _ _ _ _ (goF (h0F kl.length) (bl) i) (((bl).drop (64 * i)).take 64) _ false w (Sr.own (by repeat (first | exact At.head | exact At.headR | apply At.tail)) iv_one w hp) (goF_len h0F_len i) hi.2 (by have := (Sr.part (o := 64 * i) (m := 64) (by repeat (first | exact At.head | exact At.headR | apply At.tail)) iv_one (by omega)) w hp; rw [iv_drop, iv_take] at this; simpa using this) ((hab.drop _).take _) (by omega) (by omega) (by omega)) ?_; rintro ⟨b48, c48, r48⟩ h48; dsimp only at h48 ⊢
    refine WL.as rfl rfl ?_
    refine WL.nil ?_
    refine WQ.then ?_
    refine W.region ?_
    refine WL.mv rfl rfl ?_
    first | refine WL.val rfl (V_addN rfl rfl (by omega)) ?_ | refine WL.val rfl (V_add rfl rfl) ?_
    refine WL.as rfl rfl ?_
    refine WL.nil ?_
    refine WQ.block_normal ?_
    refine WQ.perm (List.Perm.swap _ _ _) ?_
    exact WQ.again (i + 1, b48, c48, r48) [4, 6, 7, 8] (by refine ⟨?_, h48⟩; show i + 1 = 0 ∨ 64 * (i + 1) < m; omega) (by show m - 64 * (i + 1) < m - 64 * i; omega) rfl (by repeat (first | exact List.Sublist.refl _ | exact List.nil_sublist _ | refine List.Sublist.cons_cons _ ?_ | refine List.Sublist.cons _ ?_))
  ·
    refine W.exit ?_
    refine WQ.then_exit ?_
    refine WQ.then_exit ?_
    refine WQ.block_hit ?_
    refine WQ.then ?_
    refine W.seq ?_
    refine W.region ?_
    refine WL.mv rfl rfl ?_
    refine WL.mv rfl rfl ?_
    refine WL.mv rfl rfl ?_
    refine WL.val rfl (V_sliceN (s := 1) (l := 64 * i) (h := m) (m - 64 * i) (c34 - 64 * i) (by kernel_rfl) rfl (.yes rfl rfl) .no (by omega) (by omega) (by omega) (by omega)) ?_
    refine WL.call [] (fun (q : Nat × Nat × List Value) => .slice (some ⟨q.1, 0, none⟩) 64 q.2.1) (fun q => [(q.1, .cells [(64, iv .u8 ((bl).drop (64 * i) ++ List.replicate (64 - (m - 64 * i)) 0)), (q.2.1 - 64, q.2.2)] 5)]) (fun q => 64 ≤ q.2.1) rfl (by kernel_rfl) rfl (.nil _) (fun w hp => rfilled_calls _ _ _ ((bl).drop (64 * i)) w (by have := (Sr.part (o := 64 * i) (m := m - 64 * i) (by repeat (first | exact At.head | exact At.headR | apply At.tail)) iv_one (by omega)) w hp; rw [iv_drop, iv_take] at this; rw [List.take_of_length_le (by rw [List.length_drop]; omega)] at this; simpa using this) (by omega)) ?_; rintro ⟨b55, c55, r55⟩ h55; dsimp only at h55 ⊢; rw [show (bl).drop (64 * i) ++ List.replicate (64 - (m - 64 * i)) 0 = lastL (bl) i from by rw [lastL, hal]]
    refine WL.mv rfl rfl ?_
    refine WL.val rfl (V_lenS (by kernel_rfl) rfl) ?_
    refine WL.call [] (fun (q : Nat × Nat × List Value) => .slice (some ⟨q.1, 0, none⟩) 8 q.2.1) (fun q => [(q.1, .cells [(8, iv .u32 (intoF (goF (h0F kl.length) (bl) i) (lastL (bl) i) (((m : Nat) : Int)) true)), (q.2.1 - 8, q.2.2)] 223)]) (fun q => 8 ≤ q.2.1) rfl (by kernel_rfl) rfl (.nil _) (fun w hp => rinto_calls _ _ _ _ (goF (h0F kl.length) (bl) i) (lastL (bl) i) _ true w (Sr.own (by repeat (first | exact At.head | exact At.headR | apply At.tail)) iv_one w hp) (goF_len h0F_len i) hi.2 (Sr.own (by repeat (first | exact At.head | exact At.headR | apply At.tail)) iv_one w hp) (lastL_bytes hab i) (by omega) (by omega) (by omega)) ?_; rintro ⟨bh2, ch2, rh2⟩ hh2; dsimp only at hh2 ⊢
    refine WL.as rfl rfl ?_
    refine WL.nil ?_
    refine WQ.then ?_
    refine W.seq ?_
    refine W.region ?_
    refine WL.new rfl (E_alloc (zs := [(32, List.replicate 32 (.int .u8 0))]) ⟨by kernel_rfl, by repeat (first | exact Fit.nil | refine Fit.mk (by first | rfl | (simp; done) | (simp [iv_len]; done) | simp [iv_len, *]) ?_)⟩) ?_; intro b9
    refine WL.nil ?_
    refine WQ.then ?_
    refine W.seq ?_
    refine W.seq ?_
    refine W.region ?_
    refine WL.as rfl rfl ?_
    refine WL.nil ?_
    refine WQ.then ?_
    refine W.block ?_
    -- LOOP
    rw [iv_rep]
    refine W.pick [4, 6, 9, 10] rfl ?_
    refine W.sub (L' := [(b9, .cells [(32, iv .u8 (List.replicate 32 0))] 23), (bh2, .cells [(8, iv .u32 (intoF (goF (h0F kl.length) (bl)  i) (lastL (bl) i) ((m : Nat) : Int) true)), (ch2 - 8, rh2)] 223), (b4, .cells [(32, iv .u8 (List.replicate 32 0))] 23)]) (by repeat (first | exact List.Sublist.refl _ | exact List.nil_sublist _ | refine List.Sublist.cons_cons _ ?_ | refine List.Sublist.cons _ ?_)) ?_
    refine W.loop (σ := Nat) (fun j => j ≤ 32) (fun j => [(4, .pointer (some ⟨b4, 0, none⟩)), (6, .slice (some ⟨bh2, 0, none⟩) 8 ch2), (9, .pointer (some ⟨b9, 0, none⟩)), (10, .int .i64 (j : Nat))]) (fun j => [(b9, .cells [(32, iv .u8 ((outF (intoF (goF (h0F kl.length) (bl)  i) (lastL (bl) i) ((m : Nat) : Int) true)).take j ++ List.replicate (32 - j) 0))] 23), (bh2, .cells [(8, iv .u32 (intoF (goF (h0F kl.length) (bl)  i) (lastL (bl) i) ((m : Nat) : Int) true)), (ch2 - 8, rh2)] 223), (b4, .cells [(32, iv .u8 (List.replicate 32 0))] 23)]) (fun j => 32 - j) 0 rfl rfl (Nat.zero_le _) ?_
    rintro j hj
    refine W.seq ?_
    refine W.seq ?_
    refine W.region ?_
    have hHF : (intoF (goF (h0F kl.length) (bl)  i) (lastL (bl) i) ((m : Nat) : Int) true).length = 8 := intoF_len
    refine WL.mv rfl rfl ?_
    refine WL.val rfl (V_lss rfl rfl) ?_
    refine WL.nil ?_
    refine WQ.then ?_
    refine W.cond_dec rfl (fun g2 => ?_) (fun g2 => ?_)
    ·
      refine W.skip ?_
      refine WQ.then ?_
      refine W.seq ?_
      refine W.block ?_
      refine W.region ?_
      refine WL.mv rfl rfl ?_
      refine WL.mv rfl rfl ?_
      refine WL.mv rfl rfl ?_
      first | refine WL.val rfl (V_quoN rfl rfl (by omega) (by omega) (by omega)) ?_ | refine WL.val rfl (V_quo rfl rfl (by omega)) ?_
      refine WL.val rfl (V_idxS1 (j / 4) (by kernel_rfl) rfl rfl (by omega) (by omega)) ?_
      refine WL.val rfl (V_loadIv (j / 4) (by kernel_rfl) rfl (by repeat (first | exact At.head | exact AtW.at ‹_› (by simp) | apply At.tail)) rfl (by rw [hHF]; omega)) ?_
      refine WL.mv rfl rfl ?_
      first | refine WL.val rfl (V_remN rfl rfl (by omega) (by omega)) ?_ | refine WL.val rfl (V_rem rfl rfl (by omega)) ?_
      first | refine WL.val rfl (V_mulN rfl rfl (by omega)) ?_ | refine WL.val rfl (V_mul rfl rfl) ?_
      refine WL.val rfl (V_shr rfl rfl (by omega)) ?_
      refine WL.val rfl (V_conv (k' := .u8) rfl (by kernel_rfl) (by kernel_rfl)) ?_
      refine WL.val rfl (V_idxA1 (n := 32) (j) (by kernel_rfl) rfl rfl (by omega) (by omega)) ?_
      refine WL.storeIv j (by kernel_rfl) rfl rfl (by repeat (first | exact Upd.here _ _ | apply Upd.there)) rfl (by simp [outF_len]; omega) ?_; rw [show (8 * ((j : Int) % 4)) = ((j % 4 : Nat) : Int) * 8 from by omega, outStep (by omega)]
      refine WL.nil ?_
      refine WQ.block_normal ?_
      refine WQ.then ?_
      refine W.region ?_
      refine WL.mv rfl rfl ?_
      first | refine WL.val rfl (V_addN rfl rfl (by omega)) ?_ | refine WL.val rfl (V_add rfl rfl) ?_
      refine WL.as rfl rfl ?_
      refine WL.nil ?_
      exact WQ.again (j + 1) [4, 6, 9, 10] (by show j + 1 ≤ 32; omega) (by show 32 - (j + 1) < 32 - j; omega) rfl (by repeat (first | exact List.Sublist.refl _ | exact List.nil_sublist _ | refine List.Sublist.cons_cons _ ?_ | refine List.Sublist.cons _ ?_))
    ·
      refine W.exit ?_
      refine WQ.then_exit ?_
      refine WQ.then_exit ?_
      refine WQ.block_hit ?_
      refine WQ.then ?_
      refine W.seq ?_
      refine W.region ?_
      have hj : j = 32 := by omega
      subst hj; rw [show (outF (intoF (goF (h0F kl.length) (bl)  i) (lastL (bl) i) ((m : Nat) : Int) true)).take 32 ++ List.replicate (32 - 32) 0 = macF kl bl from by rw [List.take_of_length_le (by rw [outF_len]; omega)]; simp only [Nat.sub_self, List.replicate_zero, List.append_nil]; exact (macEnd hal (by omega) (by rw [allF, if_pos hkn, List.nil_append]))]; have hml : (macF kl bl).length = 32 := macF_len
      refine WL.val rfl (V_loadA 32 (by kernel_rfl) rfl (by repeat (first | exact At.head | exact AtW.at ‹_› (by simp) | apply At.tail)) (by rfl)) ?_
      refine WL.storeA 32 (by kernel_rfl) rfl rfl (by first | rfl | (simp [flat]; done) | (simp [flat, iv_len]; done) | simp [flat, iv_len, *]) (by repeat (first | exact Fit.nil | refine Fit.mk (by first | rfl | (simp; done) | (simp [iv_len]; done) | simp [iv_len, *]) ?_)) (by first | (simp [flat, one]; done) | simp [flat, iv, one]) (by repeat (first | exact Upd.here _ _ | apply Upd.there)) (by rfl) ?_
      refine WL.as rfl rfl ?_
      refine WL.nil ?_
      refine WQ.then ?_
      refine W.ret ?_
      refine WQ.ret2 Tryz.results131 (.cellA 32 (by kernel_rfl) rfl (by repeat (first | exact At.head | exact AtW.at ‹_› (by simp) | apply At.tail)) (by rfl)) (.tmp rfl) ?_
      intro w' hp; exact ⟨rfl, hp.forget⟩

set_option maxHeartbeats 2000000 in
theorem rmac_a (A BA : Option Addr) (n kcap m bcap : Nat) (kl bl : List Int) (w : World) (hk : SrW w 1 A n (iv .u8 kl)) (hkb : bytes kl) (hkc : n ≤ kcap) (hk32 : n ≤ 32) (hb0 : SrW w 1 BA m (iv .u8 bl)) (hbb : bytes bl) (hbc : m ≤ bcap) (hm : m ≤ 4000000) (h0 : n = 0) (h1 : m = 0) :
    Calls Tryz.prog 131 [.slice A n kcap, .slice BA m bcap].toArray w fun e w' => e = .returned (.tuple #[AG [(32, iv .u8 (macF kl bl))], .int .i64 0]) ∧ HP w w' [] [] := by
  have hkl : kl.length = n := by have := hk.1; rw [iv_len] at this; omega
  have hbl : bl.length = m := by have := hb0.1; rw [iv_len] at this; omega
  have hkn : kl = [] := List.length_eq_zero_iff.1 (by omega)
  have hbn : bl = [] := List.length_eq_zero_iff.1 (by omega)
  subst h1
  refine calls_of_W Tryz.func131 rfl Tryz.ntmps131 rfl rfl (HP.refl w []) ?_
  refine W.seq ?_
  refine W.region ?_
  refine WL.new rfl (E_alloc (zs := [(32, List.replicate 32 (.int .u8 0))]) ⟨by kernel_rfl, by repeat (first | exact Fit.nil | refine Fit.mk (by first | rfl | (simp; done) | (simp [iv_len]; done) | simp [iv_len, *]) ?_)⟩) ?_; intro b4
  refine WL.as rfl rfl ?_
  refine WL.nil ?_
  refine WQ.then ?_
  refine W.seq ?_
  refine W.seq ?_
  refine W.region ?_
  refine WL.mv rfl rfl ?_
  refine WL.val rfl (V_lenS (by kernel_rfl) rfl) ?_
  refine WL.val rfl (V_gtr rfl rfl) ?_
  refine WL.nil ?_
  refine WQ.then ?_
  refine W.cond_false rfl (decide_eq_false (by omega)) ?_
  refine W.skip ?_
  refine WQ.then ?_
  refine W.seq ?_
  refine W.region ?_
  refine WL.call [] (fun r => .slice (some ⟨r, 0, none⟩) 8 8) (fun r => [(r, .cells [(8, iv .u32 firstL), (8 - 8, [])] 223)]) (fun _ => True) rfl (by kernel_rfl) rfl (.nil _) (fun w hp => rfirst_calls w) ?_; intro b15 _
  refine WL.as rfl rfl ?_
  refine WL.nil ?_
  refine WQ.then ?_
  refine W.seq ?_
  refine W.region ?_
  refine WL.mv rfl rfl ?_
  refine WL.mv rfl rfl ?_
  refine WL.val rfl (V_idxS1 (0) (by kernel_rfl) rfl rfl (by rfl) (by decide)) ?_
  refine WL.val rfl (V_loadIv 0 (by kernel_rfl) rfl (by repeat (first | exact At.head | exact AtW.at ‹_› (by simp) | apply At.tail)) rfl (by decide)) ?_
  refine WL.val rfl (V_xor rfl rfl) ?_
  refine WL.mv rfl rfl ?_
  refine WL.val rfl (V_lenS (by kernel_rfl) rfl) ?_
  refine WL.val rfl (V_conv (k' := .u32) rfl (by kernel_rfl) (by kernel_rfl)) ?_
  refine WL.val rfl (V_mul rfl rfl) ?_
  refine WL.val rfl (V_xor rfl rfl) ?_
  refine WL.val rfl (V_idxS1 (0) (by kernel_rfl) rfl rfl (by rfl) (by decide)) ?_
  refine WL.storeIv 0 (by kernel_rfl) rfl rfl (by repeat (first | exact Upd.here _ _ | apply Upd.there)) rfl (by decide) ?_; rw [h0F_r]
  refine WL.nil ?_
  refine WQ.then ?_
  refine W.seq ?_
  refine W.region ?_
  refine WL.as rfl rfl ?_
  refine WL.nil ?_
  refine WQ.then ?_
  refine W.seq ?_
  refine W.seq ?_
  refine W.region ?_
  refine WL.mv rfl rfl ?_
  refine WL.val rfl (V_lenS (by kernel_rfl) rfl) ?_
  refine WL.val rfl (V_gtr rfl rfl) ?_
  refine WL.nil ?_
  refine WQ.then ?_
  refine W.cond_false rfl (decide_eq_false (by omega)) ?_
  refine W.skip ?_
  refine WQ.then ?_
  refine W.seq ?_
  refine W.region ?_
  refine WL.mv rfl rfl ?_
  refine WL.mv rfl rfl ?_
  refine WL.val rfl (V_append0 5 1 (by kernel_rfl) rfl rfl (Nat.zero_le _)) ?_
  refine WL.as rfl rfl ?_
  refine WL.nil ?_
  refine WQ.then ?_
  refine W.seq ?_
  refine W.region ?_
  refine WL.as rfl rfl ?_
  refine WL.nil ?_
  refine WQ.then ?_
  refine W.seq ?_
  refine W.block ?_
  -- LOOP
  refine W.pick [4, 6, 7, 8] rfl ?_
  rw [show h0F n = h0F kl.length from by rw [hkl]]
  refine W.loop (σ := Unit) (fun _ => True) (fun _ => [(4, .pointer (some ⟨b4, 0, none⟩)), (6, .slice (some ⟨b15, 0, none⟩) 8 8), (7, .slice none 0 0), (8, .int .i64 0)]) (fun _ => [(b15, .cells [(8, iv .u32 (h0F kl.length)), (8 - 8, [])] 223), (b4, .cells [(32, List.replicate 32 (.int .u8 0))] 23)]) (fun _ => 0) () rfl rfl trivial ?_
  rintro _ _
  refine W.seq ?_
  refine W.seq ?_
  refine W.region ?_
  refine WL.mv rfl rfl ?_
  refine WL.val rfl (V_lenS (by kernel_rfl) rfl) ?_
  refine WL.mv rfl rfl ?_
  first | refine WL.val rfl (V_subN rfl rfl (by omega)) ?_ | refine WL.val rfl (V_sub rfl rfl) ?_
  refine WL.val rfl (V_gtr rfl rfl) ?_
  refine WL.nil ?_
  refine WQ.then ?_
  refine W.cond_false rfl (by decide) ?_
  refine W.exit ?_
  refine WQ.then_exit ?_
  refine WQ.then_exit ?_
  refine WQ.block_hit ?_
  refine WQ.then ?_
  refine W.seq ?_
  refine W.region ?_
  refine WL.mv rfl rfl ?_
  refine WL.mv rfl rfl ?_
  refine WL.mv rfl rfl ?_
  refine WL.val rfl (V_slice (s := 1) (l := 0) (h := 0) (by kernel_rfl) rfl (.yes rfl rfl) .no (by decide) (by decide)) ?_
  refine WL.call [] (fun (q : Nat × Nat × List Value) => .slice (some ⟨q.1, 0, none⟩) 64 q.2.1) (fun q => [(q.1, .cells [(64, iv .u8 ([] ++ List.replicate (64 - (0 - 0)) 0)), (q.2.1 - 64, q.2.2)] 5)]) (fun q => 64 ≤ q.2.1) rfl (by kernel_rfl) rfl (.nil _) (fun w hp => rfilled_calls _ _ _ ([]) w (SrW.nil) (by omega)) ?_; rintro ⟨b55, c55, r55⟩ h55; dsimp only at h55 ⊢; rw [show ([] : List Int) ++ List.replicate (64 - (0 - 0)) 0 = lastL [] 0 from rfl]
  refine WL.mv rfl rfl ?_
  refine WL.val rfl (V_lenS (by kernel_rfl) rfl) ?_
  refine WL.call [] (fun (q : Nat × Nat × List Value) => .slice (some ⟨q.1, 0, none⟩) 8 q.2.1) (fun q => [(q.1, .cells [(8, iv .u32 (intoF (h0F kl.length) (lastL [] 0) (((0 : Nat) : Int)) true)), (q.2.1 - 8, q.2.2)] 223)]) (fun q => 8 ≤ q.2.1) rfl (by kernel_rfl) rfl (.nil _) (fun w hp => rinto_calls _ _ _ _ (h0F kl.length) (lastL [] 0) _ true w (Sr.own (by repeat (first | exact At.head | exact At.headR | apply At.tail)) iv_one w hp) h0F_len (by decide) (Sr.own (by repeat (first | exact At.head | exact At.headR | apply At.tail)) iv_one w hp) (lastL_bytes (fun c hc => by cases hc) 0) (by omega) (by omega) (by omega)) ?_; rintro ⟨bh2, ch2, rh2⟩ hh2; dsimp only at hh2 ⊢
  refine WL.as rfl rfl ?_
  refine WL.nil ?_
  refine WQ.then ?_
  refine W.seq ?_
  refine W.region ?_
  refine WL.new rfl (E_alloc (zs := [(32, List.replicate 32 (.int .u8 0))]) ⟨by kernel_rfl, by repeat (first | exact Fit.nil | refine Fit.mk (by first | rfl | (simp; done) | (simp [iv_len]; done) | simp [iv_len, *]) ?_)⟩) ?_; intro b9
  refine WL.nil ?_
  refine WQ.then ?_
  refine W.seq ?_
  refine W.seq ?_
  refine W.region ?_
  refine WL.as rfl rfl ?_
  refine WL.nil ?_
  refine WQ.then ?_
  refine W.block ?_
  -- LOOP
  rw [iv_rep]
  refine W.pick [4, 6, 9, 10] rfl ?_
  refine W.sub (L' := [(b9, .cells [(32, iv .u8 (List.replicate 32 0))] 23), (bh2, .cells [(8, iv .u32 (intoF (h0F kl.length) (lastL [] 0) ((0 : Nat) : Int) true)), (ch2 - 8, rh2)] 223), (b4, .cells [(32, iv .u8 (List.replicate 32 0))] 23)]) (by repeat (first | exact List.Sublist.refl _ | exact List.nil_sublist _ | refine List.Sublist.cons_cons _ ?_ | refine List.Sublist.cons _ ?_)) ?_
  refine W.loop (σ := Nat) (fun j => j ≤ 32) (fun j => [(4, .pointer (some ⟨b4, 0, none⟩)), (6, .slice (some ⟨bh2, 0, none⟩) 8 ch2), (9, .pointer (some ⟨b9, 0, none⟩)), (10, .int .i64 (j : Nat))]) (fun j => [(b9, .cells [(32, iv .u8 ((outF (intoF (h0F kl.length) (lastL [] 0) ((0 : Nat) : Int) true)).take j ++ List.replicate (32 - j) 0))] 23), (bh2, .cells [(8, iv .u32 (intoF (h0F kl.length) (lastL [] 0) ((0 : Nat) : Int) true)), (ch2 - 8, rh2)] 223), (b4, .cells [(32, iv .u8 (List.replicate 32 0))] 23)]) (fun j => 32 - j) 0 rfl rfl (Nat.zero_le _) ?_
  rintro j hj
  refine W.seq ?_
  refine W.seq ?_
  refine W.region ?_
  have hHF : (intoF (h0F kl.length) (lastL [] 0) ((0 : Nat) : Int) true).length = 8 := intoF_len
  refine WL.mv rfl rfl ?_
  refine WL.val rfl (V_lss rfl rfl) ?_
  refine WL.nil ?_
  refine WQ.then ?_
  refine W.cond_dec rfl (fun g1 => ?_) (fun g1 => ?_)
  ·
    refine W.skip ?_
    refine WQ.then ?_
    refine W.seq ?_
    refine W.block ?_
    refine W.region ?_
    refine WL.mv rfl rfl ?_
    refine WL.mv rfl rfl ?_
    refine WL.mv rfl rfl ?_
    first | refine WL.val rfl (V_quoN rfl rfl (by omega) (by omega) (by omega)) ?_ | refine WL.val rfl (V_quo rfl rfl (by omega)) ?_
    refine WL.val rfl (V_idxS1 (j / 4) (by kernel_rfl) rfl rfl (by omega) (by omega)) ?_
    refine WL.val rfl (V_loadIv (j / 4) (by kernel_rfl) rfl (by repeat (first | exact At.head | exact AtW.at ‹_› (by simp) | apply At.tail)) rfl (by rw [hHF]; omega)) ?_
    refine WL.mv rfl rfl ?_
    first | refine WL.val rfl (V_remN rfl rfl (by omega) (by omega)) ?_ | refine WL.val rfl (V_rem rfl rfl (by omega)) ?_
    first | refine WL.val rfl (V_mulN rfl rfl (by omega)) ?_ | refine WL.val rfl (V_mul rfl rfl) ?_
    refine WL.val rfl (V_shr rfl rfl (by omega)) ?_
    refine WL.val rfl (V_conv (k' := .u8) rfl (by kernel_rfl) (by kernel_rfl)) ?_
    refine WL.val rfl (V_idxA1 (n := 32) (j) (by kernel_rfl) rfl rfl (by omega) (by omega)) ?_
    refine WL.storeIv j (by kernel_rfl) rfl rfl (by repeat (first | exact Upd.here _ _ | apply Upd.there)) rfl (by simp [outF_len]; omega) ?_; rw [show (8 * ((j : Int) % 4)) = ((j % 4 : Nat) : Int) * 8 from by omega, outStep (by omega)]
    refine WL.nil ?_
    refine WQ.block_normal ?_
    refine WQ.then ?_
    refine W.region ?_
    refine WL.mv rfl rfl ?_
    first | refine WL.val rfl (V_addN rfl rfl (by omega)) ?_ | refine WL.val rfl (V_add rfl rfl) ?_
    refine WL.as rfl rfl ?_
    refine WL.nil ?_
    exact WQ.again (j + 1) [4, 6, 9, 10] (by show j + 1 ≤ 32; omega) (by show 32 - (j + 1) < 32 - j; omega) rfl (by repeat (first | exact List.Sublist.refl _ | exact List.nil_sublist _ | refine List.Sublist.cons_cons _ ?_ | refine List.Sublist.cons _ ?_))
  ·
    refine W.exit ?_
    refine WQ.then_exit ?_
    refine WQ.then_exit ?_
    refine WQ.block_hit ?_
    refine WQ.then ?_
    refine W.seq ?_
    refine W.region ?_
    have hj : j = 32 := by omega
    subst hj; rw [show (outF (intoF (h0F kl.length) (lastL [] 0) ((0 : Nat) : Int) true)).take 32 ++ List.replicate (32 - 32) 0 = macF kl bl from by rw [List.take_of_length_le (by rw [outF_len]; omega)]; simp only [Nat.sub_self, List.replicate_zero, List.append_nil]; exact (by subst hkn; subst hbn; rfl)]; have hml : (macF kl bl).length = 32 := macF_len
    refine WL.val rfl (V_loadA 32 (by kernel_rfl) rfl (by repeat (first | exact At.head | exact AtW.at ‹_› (by simp) | apply At.tail)) (by rfl)) ?_
    refine WL.storeA 32 (by kernel_rfl) rfl rfl (by first | rfl | (simp [flat]; done) | (simp [flat, iv_len]; done) | simp [flat, iv_len, *]) (by repeat (first | exact Fit.nil | refine Fit.mk (by first | rfl | (simp; done) | (simp [iv_len]; done) | simp [iv_len, *]) ?_)) (by first | (simp [flat, one]; done) | simp [flat, iv, one]) (by repeat (first | exact Upd.here _ _ | apply Upd.there)) (by rfl) ?_
    refine WL.as rfl rfl ?_
    refine WL.nil ?_
    refine WQ.then ?_
    refine W.ret ?_
    refine WQ.ret2 Tryz.results131 (.cellA 32 (by kernel_rfl) rfl (by repeat (first | exact At.head | exact AtW.at ‹_› (by simp) | apply At.tail)) (by rfl)) (.tmp rfl) ?_
    intro w' hp; exact ⟨rfl, hp.forget⟩

theorem rmac_calls (A BA : Option Addr) (n kcap m bcap : Nat) (kl bl : List Int) (w : World) (hk : SrW w 1 A n (iv .u8 kl)) (hkb : bytes kl) (hkc : n ≤ kcap) (hk32 : n ≤ 32) (hb0 : SrW w 1 BA m (iv .u8 bl)) (hbb : bytes bl) (hbc : m ≤ bcap) (hm : m ≤ 4000000) :
    Calls Tryz.prog 131 [.slice A n kcap, .slice BA m bcap].toArray w fun e w' => e = .returned (.tuple #[AG [(32, iv .u8 (macF kl bl))], .int .i64 0]) ∧ HP w w' [] [] := by
  by_cases h0 : 0 < n
  · exact rmac_c A BA n kcap m bcap kl bl w hk hkb hkc hk32 hb0 hbb hbc hm h0
  by_cases h1 : 0 < m
  · exact rmac_b A BA n kcap m bcap kl bl w hk hkb hkc hk32 hb0 hbb hbc hm (by omega) h1
  · exact rmac_a A BA n kcap m bcap kl bl w hk hkb hkc hk32 hb0 hbb hbc hm (by omega) (by omega)

end Go.Proofs.YtmeckbjinmgbbaaGreat