/- BLAKE2s: the tag of bytes by a key, by package blake. -/
import Derived.Test.YtmeckbjinmgbbaaGreatRInto
set_option linter.unusedVariables false
set_option linter.unusedSimpArgs false

namespace Go.Proofs.YtmeckbjinmgbbaaGreat
open Go.X
def h0F (n : Nat) : List Int := firstL.set 0 (xorI .u32 (firstL.getD 0 0) (xorI .u32 16842784 (shlI .u32 (IntKind.u32.wrap (n : Int)) 8)))
def padK (kl : List Int) : List Int := kl ++ List.replicate (64 - kl.length) 0
def allF (kl bl : List Int) : List Int := (if kl = [] then [] else padK kl) ++ bl
def goF (h all : List Int) : Nat → List Int
  | 0 => h
  | i + 1 => intoF (goF h all i) ((all.drop (64 * i)).take 64) (((64 * i : Nat) : Int) + 64) false
def lastL (all : List Int) (i : Nat) : List Int := all.drop (64 * i) ++ List.replicate (64 - (all.length - 64 * i)) 0
def outF (h : List Int) : List Int := (List.range 32).map fun i => IntKind.u8.wrap (shrI .u32 (h.getD (i / 4) 0) (((i % 4 : Nat) : Int) * 8))
/-- The tag. -/
def macF (kl bl : List Int) : List Int :=
  outF (intoF (goF (h0F kl.length) (allF kl bl) (((allF kl bl).length - 1) / 64)) (lastL (allF kl bl) (((allF kl bl).length - 1) / 64)) (allF kl bl).length true)
theorem intoF_len {h bl : List Int} {t : Int} {last : Bool} : (intoF h bl t last).length = 8 := by simp [intoF, finF]
theorem h0F_len {n : Nat} : (h0F n).length = 8 := by simp [h0F, firstL]
theorem goF_len {h all : List Int} (hh : h.length = 8) : ∀ i, (goF h all i).length = 8
  | 0 => hh
  | i + 1 => intoF_len
theorem outF_len {h : List Int} : (outF h).length = 32 := by simp [outF]
theorem macF_len {kl bl : List Int} : (macF kl bl).length = 32 := outF_len
theorem outF_bytes {h : List Int} : bytes (outF h) := fun c hc => by
  obtain ⟨i, _, rfl⟩ := List.mem_map.1 hc
  rw [IntKind.wrap_u8]; omega
theorem macF_bytes {kl bl : List Int} : bytes (macF kl bl) := outF_bytes
theorem padK_len {kl : List Int} (h : kl.length ≤ 64) : (padK kl).length = 64 := by simp [padK]; omega
theorem rep_bytes {n : Nat} : bytes (List.replicate n 0) := fun c hc => by rw [List.eq_of_mem_replicate hc]; omega
theorem padK_bytes {kl : List Int} (h : bytes kl) : bytes (padK kl) := h.app rep_bytes
theorem lastL_bytes {all : List Int} (h : bytes all) (i : Nat) : bytes (lastL all i) := (h.drop _).app rep_bytes
theorem outStep {h : List Int} {i : Nat} (hi : i < 32) : ((outF h).take i ++ List.replicate (32 - i) 0).set i (IntKind.u8.wrap (shrI .u32 (h.getD (i / 4) 0) (((i % 4 : Nat) : Int) * 8))) = (outF h).take (i + 1) ++ List.replicate (32 - (i + 1)) 0 := by
  have e : ∀ k, k ≤ 32 → (outF h).take k = (List.range k).map fun i => IntKind.u8.wrap (shrI .u32 (h.getD (i / 4) 0) (((i % 4 : Nat) : Int) * 8)) := fun k hk => by
    rw [outF, ← List.map_take, List.take_range, Nat.min_eq_left hk]
  rw [e i (by omega), e (i + 1) (by omega)]
  exact fillStep hi
theorem lastL_len {all : List Int} {i : Nat} (h : all.length - 64 * i ≤ 64) : (lastL all i).length = 64 := by simp [lastL]; omega
/-- What copying comes to. -/
theorem copyPad {l : List Int} {n k : Nat} (hl : l.length = n) (hk : n ≤ k) : iv .u8 (l ++ List.replicate (k - n) 0) = (iv .u8 (List.replicate k 0)).take 0 ++ (iv .u8 l).take k ++ (iv .u8 (List.replicate k 0)).drop (0 + min n k) := by
  rw [Nat.min_eq_left hk, List.take_zero, List.nil_append, List.take_of_length_le (i := k) (by rw [iv_len]; omega), iv_drop, iv_app, Nat.zero_add, List.drop_replicate]
theorem lastCopy {all : List Int} {N i : Nat} (h : all.length = N) (hi : N - 64 * i ≤ 64) : flat [(64, iv .u8 (lastL all i))] = (flat [(64, List.replicate 64 (Value.int .u8 0))]).take (0 + 0 * 1) ++ (List.take (N - 64 * i) (List.drop (64 * i) (iv .u8 all))).take 64 ++ (flat [(64, List.replicate 64 (Value.int .u8 0))]).drop (0 + 0 * 1 + min (N - 64 * i) 64) := by
  simp only [flat, List.flatMap_cons, List.flatMap_nil, List.append_nil, Nat.zero_mul, Nat.zero_add, List.take_zero, List.nil_append]
  have e : (List.take (N - 64 * i) (List.drop (64 * i) (iv .u8 all))).take 64 = iv .u8 (all.drop (64 * i)) := by
    rw [iv_drop, List.take_take, List.take_of_length_le]
    rw [iv_len, List.length_drop]; omega
  rw [e, Nat.min_eq_left hi, List.drop_replicate, iv_rep, iv_app, lastL, h]
theorem macEnd {kl bl all : List Int} {N i : Nat} (h : all.length = N) (hi : i = (N - 1) / 64) (ha : allF kl bl = all) : outF (intoF (goF (h0F kl.length) all i) (lastL all i) ((N : Nat) : Int) true) = macF kl bl := by
  unfold macF; rw [ha, h, ← hi]
theorem ne_of {a b : Nat} {k k' : Blk} {L : List (Nat × Blk)} {w0 w : World} {O : List Nat} (hp : HP w0 w O L) (h : [(a, k), (b, k')].Sublist L) : a ≠ b := by
  have := hp.nodup.sublist (h.map (·.1))
  simp at this; exact this

set_option maxHeartbeats 2000000 in
theorem mac_c (A BA : Option Addr) (n kcap m bcap : Nat) (kl bl : List Int) (w : World) (hk : SrW w 1 A n (iv .u8 kl)) (hkb : bytes kl) (hkc : n ≤ kcap) (hk32 : n ≤ 32) (hb0 : SrW w 1 BA m (iv .u8 bl)) (hbb : bytes bl) (hbc : m ≤ bcap) (hm : m ≤ 4000000) (h0 : 0 < n) :
    Calls Tryz.prog 96 [.slice A n kcap, .slice BA m bcap].toArray w fun e w' => e = .returned (.tuple #[AG [(32, iv .u8 (macF kl bl))], .int .i64 0]) ∧ HP w w' [] [] := by
  have hkl : kl.length = n := by have := hk.1; rw [iv_len] at this; omega
  have hbl : bl.length = m := by have := hb0.1; rw [iv_len] at this; omega
  have hal : (padK kl ++ bl).length = 64 + m := by rw [List.length_append, padK_len (by omega), hbl]
  have hab := (padK_bytes hkb).app hbb
  have hkn : kl ≠ [] := by intro h; subst h; simp at hkl; omega
  refine calls_of_W Tryz.func96 rfl Tryz.ntmps96 rfl rfl (HP.refl w []) ?_
  refine W.seq ?_
  refine W.region ?_
  refine WL.new rfl (E_alloc (zs := [(32, List.replicate 32 (.int .u8 0))]) ⟨by kernel_rfl, by repeat (first | exact Fit.nil | refine Fit.mk (by first | rfl | (simp; done) | (simp [iv_len]; done) | simp [iv_len, *]) ?_)⟩) ?_; intro b4
  refine WL.as rfl rfl ?_
  refine WL.nil ?_
  refine WQ.then ?_
  refine W.seq ?_
  refine W.seq ?_
  refine W.region ?_
  refine WL.mv rfl rfl ?_
  refine WL.val rfl (V_lenS (by kernel_rfl) rfl) ?_
  refine WL.val rfl (V_gtr rfl rfl) ?_
  refine WL.nil ?_
  refine WQ.then ?_
  refine W.cond_false rfl (decide_eq_false (by omega)) ?_
  refine W.skip ?_
  refine WQ.then ?_
  refine W.seq ?_
  refine W.region ?_
  refine WL.pure _ rfl (by kernel_rfl) rfl (fun w hp => first_calls w) ?_
  refine WL.new rfl (E_alloc (zs := [(8, List.replicate 8 (.int .u32 0))]) ⟨by kernel_rfl, by repeat (first | exact Fit.nil | refine Fit.mk (by first | rfl | (simp; done) | (simp [iv_len]; done) | simp [iv_len, *]) ?_)⟩) ?_; intro b6
  refine WL.storeA 8 (by kernel_rfl) rfl rfl (by first | rfl | (simp [flat]; done) | (simp [flat, iv_len]; done) | simp [flat, iv_len, *]) (by repeat (first | exact Fit.nil | refine Fit.mk (by first | rfl | (simp; done) | (simp [iv_len]; done) | simp [iv_len, *]) ?_)) (by first | (simp [flat, one]; done) | simp [flat, iv, one]) (by repeat (first | exact Upd.here _ _ | apply Upd.there)) (by rfl) ?_
  refine WL.nil ?_
  refine WQ.then ?_
  refine W.seq ?_
  refine W.region ?_
  refine WL.val rfl (V_idxA1 (n := 8) (0) (by kernel_rfl) rfl rfl (by omega) (by omega)) ?_
  refine WL.val rfl (V_loadIv 0 (by kernel_rfl) rfl (by repeat (first | exact At.head | exact AtW.at ‹_› (by simp) | apply At.tail)) rfl (by decide)) ?_
  refine WL.mv rfl rfl ?_
  refine WL.val rfl (V_lenS (by kernel_rfl) rfl) ?_
  refine WL.val rfl (V_conv (k' := .u32) rfl (by kernel_rfl) (by kernel_rfl)) ?_
  refine WL.val rfl (V_shl rfl rfl (by omega)) ?_
  refine WL.val rfl (V_xor rfl rfl) ?_
  refine WL.val rfl (V_xor rfl rfl) ?_
  refine WL.val rfl (V_idxA1 (n := 8) (0) (by kernel_rfl) rfl rfl (by omega) (by omega)) ?_
  refine WL.storeIv 0 (by kernel_rfl) rfl rfl (by repeat (first | exact Upd.here _ _ | apply Upd.there)) rfl (by decide) ?_; rw [show firstL.set 0 _ = h0F kl.length from by rw [h0F, hkl]]
  refine WL.nil ?_
  refine WQ.then ?_
  refine W.seq ?_
  refine W.region ?_
  refine WL.as rfl rfl ?_
  refine WL.nil ?_
  refine WQ.then ?_
  refine W.seq ?_
  refine W.seq ?_
  refine W.region ?_
  refine WL.mv rfl rfl ?_
  refine WL.val rfl (V_lenS (by kernel_rfl) rfl) ?_
  refine WL.val rfl (V_gtr rfl rfl) ?_
  refine WL.nil ?_
  refine WQ.then ?_
  refine W.cond_true rfl (decide_eq_true (by omega)) ?_
  refine W.seq ?_
  refine W.region ?_
  refine WL.make (n := 64) 5 1 (.int .u8 0) rfl (by kernel_rfl) ⟨by kernel_rfl, by repeat (first | exact Fit.nil | refine Fit.mk (by first | rfl | (simp; done) | (simp [iv_len]; done) | simp [iv_len, *]) ?_)⟩ rfl rfl (by first | rfl | omega) (by first | rfl | omega) (by omega) (by omega) ?_; intro b29
  refine WL.as rfl rfl ?_
  refine WL.nil ?_
  refine WQ.then ?_
  refine W.region ?_
  refine WL.mv rfl rfl ?_
  refine WL.mv rfl rfl ?_
  rw [iv_rep]
  refine WL.copy [(64, iv .u8 (padK kl)), (64 - 64, [])] rfl (by kernel_rfl) rfl rfl hk.old0 (by repeat (first | exact Upd.here _ _ | apply Upd.there)) (by simp [flat, iv_len]; try omega) (fun _ => Fit.mk (by rw [iv_len, padK_len (by omega)]) (Fit.mk rfl Fit.nil)) (by have := copyPad (k := 64) hkl (by omega); simpa [flat, padK, hkl] using this) ?_
  refine WL.nil ?_
  refine WQ.then ?_
  refine W.seq ?_
  refine W.region ?_
  refine WL.mv rfl rfl ?_
  refine WL.mv rfl rfl ?_
  refine WL.append 5 1 rfl (by kernel_rfl) rfl rfl (by omega) (by repeat (first | exact Del.here _ | apply Del.there)) hb0.old0 (by omega) (by omega) ?_; intro b35 c35 r35 h35
  refine WL.as rfl rfl ?_
  refine WL.nil ?_
  refine WQ.then ?_
  refine W.seq ?_
  refine W.region ?_
  refine WL.as rfl rfl ?_
  refine WL.nil ?_
  refine WQ.then ?_
  refine W.seq ?_
  refine W.block ?_
  -- LOOP
  rw [iv_app]
  refine W.pick [4, 6, 7, 8] rfl ?_
  refine W.loop (σ := Nat) (fun i => (i = 0 ∨ 64 * i < 64 + m)) (fun i => [(4, .pointer (some ⟨b4, 0, none⟩)), (6, .pointer (some ⟨b6, 0, none⟩)), (7, .slice (some ⟨b35, 64 * i, none⟩) (64 + m - 64 * i) (c35 - 64 * i)), (8, .int .u64 (64 * i : Nat))]) (fun i => [(b35, .cells [(64 + m, iv .u8 (padK kl ++ bl)), (c35 - (64 + m), r35)] 5), (b6, .cells [(8, iv .u32 (goF (h0F kl.length) (padK kl ++ bl) i))] 225), (b4, .cells [(32, List.replicate 32 (.int .u8 0))] 23)]) (fun i => 64 + m - 64 * i) 0 rfl rfl (.inl rfl) ?_
  rintro i hi
  refine W.seq ?_
  refine W.seq ?_
  refine W.region ?_
  refine WL.mv rfl rfl ?_
  refine WL.val rfl (V_lenS (by kernel_rfl) rfl) ?_
  refine WL.val rfl (V_gtr rfl rfl) ?_
  refine WL.nil ?_
  refine WQ.then ?_
  refine W.cond_dec rfl (fun g1 => ?_) (fun g1 => ?_)
  ·
    refine W.skip ?_
    refine WQ.then ?_
    refine W.block ?_
    refine W.seq ?_
    refine W.region ?_
    refine WL.mv rfl rfl ?_
    refine WL.val rfl (V_add rfl rfl) ?_
    refine WL.as rfl rfl ?_
    refine WL.nil ?_
    refine WQ.then ?_
    refine W.seq ?_
    refine W.region ?_
    rw [Go.IntWalk.u64_in _ (by omega)]
    refine WL.mv rfl rfl ?_
    refine WL.val rfl (V_s2p (n := 64) (s := 1) (by kernel_rfl) (by omega) rfl) ?_
    refine WL.mv rfl rfl ?_
    refine WL.mod _ rfl (by kernel_rfl) rfl (by repeat (first | exact Upd.here _ _ | apply Upd.there)) (fun w hp => into_calls b6 b35 (64 * i) (goF (h0F kl.length) (padK kl ++ bl) i) (((padK kl ++ bl).drop (64 * i)).take 64) _ false 225 w (hp.held (b6, .cells [(8, iv .u32 (goF (h0F kl.length) (padK kl ++ bl) i))] 225) (by simp)) (goF_len h0F_len _) (by have := (Sr.part (o := 64 * i) (m := 64) (by repeat (first | exact At.head | exact At.headR | apply At.tail)) iv_one (by omega)) w hp; rwa [iv_drop, iv_take] at this) ((hab.drop _).take _) (ne_of hp (by repeat (first | exact List.Sublist.refl _ | exact List.nil_sublist _ | refine List.Sublist.cons_cons _ ?_ | refine List.Sublist.cons _ ?_)))) ?_
    refine WL.nil ?_
    refine WQ.then ?_
    refine W.region ?_
    refine WL.mv rfl rfl ?_
    refine WL.val rfl (V_sliceN (s := 1) (l := 64) (h := 64 + m - 64 * i) (64 + m - 64 * (i + 1)) (c35 - 64 * (i + 1)) (by kernel_rfl) rfl (.yes rfl rfl) .no (by omega) (by omega) (by omega) (by omega)) ?_
    refine WL.as rfl rfl ?_
    refine WL.nil ?_
    refine WQ.block_normal ?_
    exact WQ.again (i + 1) [4, 6, 7, 8] (by show i + 1 = 0 ∨ 64 * (i + 1) < 64 + m; omega) (by show 64 + m - 64 * (i + 1) < 64 + m - 64 * i; omega) rfl (by repeat (first | exact List.Sublist.refl _ | exact List.nil_sublist _ | refine List.Sublist.cons_cons _ ?_ | refine List.Sublist.cons _ ?_))
  ·
    refine W.exit ?_
    refine WQ.then_exit ?_
    refine WQ.then_exit ?_
    refine WQ.block_hit ?_
    refine WQ.then ?_
    refine W.seq ?_
    refine W.region ?_
    refine WL.new rfl (E_alloc (zs := [(64, List.replicate 64 (.int .u8 0))]) ⟨by kernel_rfl, by repeat (first | exact Fit.nil | refine Fit.mk (by first | rfl | (simp; done) | (simp [iv_len]; done) | simp [iv_len, *]) ?_)⟩) ?_; intro b9
    refine WL.nil ?_
    refine WQ.then ?_
    refine W.seq ?_
    refine W.region ?_
    refine WL.mv rfl rfl ?_
    refine WL.val rfl (V_slicePN (s := 1) (len := 64) (l := 0) (h := 64) 64 64 (by kernel_rfl) rfl .no .no rfl rfl (by decide) (by decide)) ?_
    refine WL.mv rfl rfl ?_
    refine WL.copy ([(64, iv .u8 (lastL (padK kl ++ bl) i))]) rfl (by kernel_rfl) rfl rfl ((Sr.part (o := 64 * i) (m := 64 + m - 64 * i) (by repeat (first | exact At.head | exact At.headR | apply At.tail)) iv_one (by omega))) (by repeat (first | exact Upd.here _ _ | apply Upd.there)) (by simp [flat, iv_len]; try omega) (fun _ => Fit.mk (by rw [iv_len, lastL_len (by omega)]) Fit.nil) (lastCopy (i := i) hal (by omega)) ?_
    refine WL.val rfl (V_convN (k' := .u64) rfl (by kernel_rfl) (by kernel_rfl) (Go.IntWalk.u64_in _ (by omega))) ?_
    refine WL.val rfl (V_add rfl rfl) ?_
    refine WL.as rfl rfl ?_
    refine WL.nil ?_
    refine WQ.then ?_
    refine W.seq ?_
    refine W.region ?_
    rw [show IntKind.u64.wrap (((64 * i : Nat) : Int) + ((min (64 + m - 64 * i) 64 : Nat) : Int)) = ((64 + m : Nat) : Int) from by rw [Go.IntWalk.u64_in _ (by omega)]; omega]
    refine WL.mv rfl rfl ?_
    refine WL.mod _ rfl (by kernel_rfl) rfl (by repeat (first | exact Upd.here _ _ | apply Upd.there)) (fun w hp => into_calls b6 b9 (0) (goF (h0F kl.length) (padK kl ++ bl) i) (lastL (padK kl ++ bl) i) _ true 225 w (hp.held (b6, .cells [(8, iv .u32 (goF (h0F kl.length) (padK kl ++ bl) i))] 225) (by simp)) (goF_len h0F_len _) (Sr.all (by repeat (first | exact At.head | exact At.headR | apply At.tail)) iv_one w hp) (lastL_bytes hab i) (ne_of hp (by repeat (first | exact List.Sublist.refl _ | exact List.nil_sublist _ | refine List.Sublist.cons_cons _ ?_ | refine List.Sublist.cons _ ?_)))) ?_
    refine WL.nil ?_
    refine WQ.then ?_
    refine W.seq ?_
    refine W.region ?_
    refine WL.new rfl (E_alloc (zs := [(32, List.replicate 32 (.int .u8 0))]) ⟨by kernel_rfl, by repeat (first | exact Fit.nil | refine Fit.mk (by first | rfl | (simp; done) | (simp [iv_len]; done) | simp [iv_len, *]) ?_)⟩) ?_; intro b10
    refine WL.nil ?_
    refine WQ.then ?_
    refine W.seq ?_
    refine W.seq ?_
    refine W.region ?_
    refine WL.mv rfl rfl ?_
    refine WL.nil ?_
    refine WQ.then ?_
    refine W.block ?_
    -- LOOP
    rw [iv_rep]
    refine W.pick [4, 6, 10, 55] rfl ?_
    refine W.sub (L' := [(b10, .cells [(32, iv .u8 (List.replicate 32 0))] 23), (b6, .cells [(8, iv .u32 (intoF (goF (h0F kl.length) (padK kl ++ bl) i) (lastL (padK kl ++ bl) i) ((64 + m : Nat) : Int) true))] 225), (b4, .cells [(32, List.replicate 32 (.int .u8 0))] 23)]) (by repeat (first | exact List.Sublist.refl _ | exact List.nil_sublist _ | refine List.Sublist.cons_cons _ ?_ | refine List.Sublist.cons _ ?_)) ?_
    refine W.loop (σ := Nat) (fun j => j ≤ 32) (fun j => [(4, .pointer (some ⟨b4, 0, none⟩)), (6, .pointer (some ⟨b6, 0, none⟩)), (10, .pointer (some ⟨b10, 0, none⟩)), (55, .int .i64 (j : Nat))]) (fun j => [(b10, .cells [(32, iv .u8 ((outF (intoF (goF (h0F kl.length) (padK kl ++ bl) i) (lastL (padK kl ++ bl) i) ((64 + m : Nat) : Int) true)).take j ++ List.replicate (32 - j) 0))] 23), (b6, .cells [(8, iv .u32 (intoF (goF (h0F kl.length) (padK kl ++ bl) i) (lastL (padK kl ++ bl) i) ((64 + m : Nat) : Int) true))] 225), (b4, .cells [(32, List.replicate 32 (.int .u8 0))] 23)]) (fun j => 32 - j) 0 rfl rfl (Nat.zero_le _) ?_
    rintro j hj
    refine W.seq ?_
    refine W.region ?_
    have hHF : (intoF (goF (h0F kl.length) (padK kl ++ bl) i) (lastL (padK kl ++ bl) i) ((64 + m : Nat) : Int) true).length = 8 := intoF_len
    refine WL.val rfl (V_lss rfl rfl) ?_
    refine WL.nil ?_
    refine WQ.then ?_
    refine W.seq ?_
    refine W.cond_dec rfl (fun g2 => ?_) (fun g2 => ?_)
    ·
      refine W.skip ?_
      refine WQ.then ?_
      refine W.seq ?_
      refine W.block ?_
      refine W.seq ?_
      refine W.region ?_
      refine WL.mv rfl rfl ?_
      refine WL.as rfl rfl ?_
      refine WL.nil ?_
      refine WQ.then ?_
      refine W.region ?_
      refine WL.mv rfl rfl ?_
      refine WL.mv rfl rfl ?_
      first | refine WL.val rfl (V_quoN rfl rfl (by omega) (by omega) (by omega)) ?_ | refine WL.val rfl (V_quo rfl rfl (by omega)) ?_
      refine WL.val rfl (V_idxA1 (n := 8) (j / 4) (by kernel_rfl) rfl rfl (by omega) (by omega)) ?_
      refine WL.val rfl (V_loadIv (j / 4) (by kernel_rfl) rfl (by repeat (first | exact At.head | exact AtW.at ‹_› (by simp) | apply At.tail)) rfl (by rw [hHF]; omega)) ?_
      refine WL.mv rfl rfl ?_
      first | refine WL.val rfl (V_remN rfl rfl (by omega) (by omega)) ?_ | refine WL.val rfl (V_rem rfl rfl (by omega)) ?_
      first | refine WL.val rfl (V_mulN rfl rfl (by omega)) ?_ | refine WL.val rfl (V_mul rfl rfl) ?_
      refine WL.val rfl (V_shr rfl rfl (by omega)) ?_
      refine WL.val rfl (V_conv (k' := .u8) rfl (by kernel_rfl) (by kernel_rfl)) ?_
      refine WL.val rfl (V_idxA1 (n := 32) (j) (by kernel_rfl) rfl rfl (by omega) (by omega)) ?_
      refine WL.storeIv j (by kernel_rfl) rfl rfl (by repeat (first | exact Upd.here _ _ | apply Upd.there)) rfl (by simp [outF_len]; omega) ?_; rw [show ((j : Int) % 4 * 8) = ((j % 4 : Nat) : Int) * 8 from by omega, outStep (by omega)]
      refine WL.nil ?_
      refine WQ.block_normal ?_
      refine WQ.then ?_
      refine W.region ?_
      first | refine WL.val rfl (V_addN rfl rfl (by omega)) ?_ | refine WL.val rfl (V_add rfl rfl) ?_
      refine WL.mv rfl rfl ?_
      refine WL.nil ?_
      exact WQ.again (j + 1) [4, 6, 10, 55] (by show j + 1 ≤ 32; omega) (by show 32 - (j + 1) < 32 - j; omega) rfl (by repeat (first | exact List.Sublist.refl _ | exact List.nil_sublist _ | refine List.Sublist.cons_cons _ ?_ | refine List.Sublist.cons _ ?_))
    ·
      refine W.exit ?_
      refine WQ.then_exit ?_
      refine WQ.then_exit ?_
      refine WQ.block_hit ?_
      refine WQ.then ?_
      refine W.seq ?_
      refine W.region ?_
      have hj : j = 32 := by omega
      subst hj; rw [show (outF (intoF (goF (h0F kl.length) (padK kl ++ bl) i) (lastL (padK kl ++ bl) i) ((64 + m : Nat) : Int) true)).take 32 ++ List.replicate (32 - 32) 0 = macF kl bl from by rw [List.take_of_length_le (by rw [outF_len]; omega)]; simp only [Nat.sub_self, List.replicate_zero, List.append_nil]; exact (macEnd hal (by omega) (by rw [allF, if_neg hkn]))]; have hml : (macF kl bl).length = 32 := macF_len
      refine WL.val rfl (V_loadA 32 (by kernel_rfl) rfl (by repeat (first | exact At.head | exact AtW.at ‹_› (by simp) | apply At.tail)) (by rfl)) ?_
      refine WL.storeA 32 (by kernel_rfl) rfl rfl (by first | rfl | (simp [flat]; done) | (simp [flat, iv_len]; done) | simp [flat, iv_len, *]) (by repeat (first | exact Fit.nil | refine Fit.mk (by first | rfl | (simp; done) | (simp [iv_len]; done) | simp [iv_len, *]) ?_)) (by first | (simp [flat, one]; done) | simp [flat, iv, one]) (by repeat (first | exact Upd.here _ _ | apply Upd.there)) (by rfl) ?_
      refine WL.as rfl rfl ?_
      refine WL.nil ?_
      refine WQ.then ?_
      refine W.ret ?_
      refine WQ.ret2 Tryz.results96 (.cellA 32 (by kernel_rfl) rfl (by repeat (first | exact At.head | exact AtW.at ‹_› (by simp) | apply At.tail)) (by rfl)) (.tmp rfl) ?_
      intro w' hp; exact ⟨rfl, hp.forget⟩

set_option maxHeartbeats 2000000 in
theorem mac_b (A BA : Option Addr) (n kcap m bcap : Nat) (kl bl : List Int) (w : World) (hk : SrW w 1 A n (iv .u8 kl)) (hkb : bytes kl) (hkc : n ≤ kcap) (hk32 : n ≤ 32) (hb0 : SrW w 1 BA m (iv .u8 bl)) (hbb : bytes bl) (hbc : m ≤ bcap) (hm : m ≤ 4000000) (h0 : n = 0) (h1 : 0 < m) :
    Calls Tryz.prog 96 [.slice A n kcap, .slice BA m bcap].toArray w fun e w' => e = .returned (.tuple #[AG [(32, iv .u8 (macF kl bl))], .int .i64 0]) ∧ HP w w' [] [] := by
  have hkl : kl.length = n := by have := hk.1; rw [iv_len] at this; omega
  have hbl : bl.length = m := by have := hb0.1; rw [iv_len] at this; omega
  have hal : bl.length = m := hbl
  have hab := hbb
  have hkn : kl = [] := List.length_eq_zero_iff.1 (by omega)
  refine calls_of_W Tryz.func96 rfl Tryz.ntmps96 rfl rfl (HP.refl w []) ?_
  refine W.seq ?_
  refine W.region ?_
  refine WL.new rfl (E_alloc (zs := [(32, List.replicate 32 (.int .u8 0))]) ⟨by kernel_rfl, by repeat (first | exact Fit.nil | refine Fit.mk (by first | rfl | (simp; done) | (simp [iv_len]; done) | simp [iv_len, *]) ?_)⟩) ?_; intro b4
  refine WL.as rfl rfl ?_
  refine WL.nil ?_
  refine WQ.then ?_
  refine W.seq ?_
  refine W.seq ?_
  refine W.region ?_
  refine WL.mv rfl rfl ?_
  refine WL.val rfl (V_lenS (by kernel_rfl) rfl) ?_
  refine WL.val rfl (V_gtr rfl rfl) ?_
  refine WL.nil ?_
  refine WQ.then ?_
  refine W.cond_false rfl (decide_eq_false (by omega)) ?_
  refine W.skip ?_
  refine WQ.then ?_
  refine W.seq ?_
  refine W.region ?_
  refine WL.pure _ rfl (by kernel_rfl) rfl (fun w hp => first_calls w) ?_
  refine WL.new rfl (E_alloc (zs := [(8, List.replicate 8 (.int .u32 0))]) ⟨by kernel_rfl, by repeat (first | exact Fit.nil | refine Fit.mk (by first | rfl | (simp; done) | (simp [iv_len]; done) | simp [iv_len, *]) ?_)⟩) ?_; intro b6
  refine WL.storeA 8 (by kernel_rfl) rfl rfl (by first | rfl | (simp [flat]; done) | (simp [flat, iv_len]; done) | simp [flat, iv_len, *]) (by repeat (first | exact Fit.nil | refine Fit.mk (by first | rfl | (simp; done) | (simp [iv_len]; done) | simp [iv_len, *]) ?_)) (by first | (simp [flat, one]; done) | simp [flat, iv, one]) (by repeat (first | exact Upd.here _ _ | apply Upd.there)) (by rfl) ?_
  refine WL.nil ?_
  refine WQ.then ?_
  refine W.seq ?_
  refine W.region ?_
  refine WL.val rfl (V_idxA1 (n := 8) (0) (by kernel_rfl) rfl rfl (by omega) (by omega)) ?_
  refine WL.val rfl (V_loadIv 0 (by kernel_rfl) rfl (by repeat (first | exact At.head | exact AtW.at ‹_› (by simp) | apply At.tail)) rfl (by decide)) ?_
  refine WL.mv rfl rfl ?_
  refine WL.val rfl (V_lenS (by kernel_rfl) rfl) ?_
  refine WL.val rfl (V_conv (k' := .u32) rfl (by kernel_rfl) (by kernel_rfl)) ?_
  refine WL.val rfl (V_shl rfl rfl (by omega)) ?_
  refine WL.val rfl (V_xor rfl rfl) ?_
  refine WL.val rfl (V_xor rfl rfl) ?_
  refine WL.val rfl (V_idxA1 (n := 8) (0) (by kernel_rfl) rfl rfl (by omega) (by omega)) ?_
  refine WL.storeIv 0 (by kernel_rfl) rfl rfl (by repeat (first | exact Upd.here _ _ | apply Upd.there)) rfl (by decide) ?_; rw [show firstL.set 0 _ = h0F kl.length from by rw [h0F, hkl]]
  refine WL.nil ?_
  refine WQ.then ?_
  refine W.seq ?_
  refine W.region ?_
  refine WL.as rfl rfl ?_
  refine WL.nil ?_
  refine WQ.then ?_
  refine W.seq ?_
  refine W.seq ?_
  refine W.region ?_
  refine WL.mv rfl rfl ?_
  refine WL.val rfl (V_lenS (by kernel_rfl) rfl) ?_
  refine WL.val rfl (V_gtr rfl rfl) ?_
  refine WL.nil ?_
  refine WQ.then ?_
  refine W.cond_false rfl (decide_eq_false (by omega)) ?_
  refine W.skip ?_
  refine WQ.then ?_
  refine W.seq ?_
  refine W.region ?_
  refine WL.mv rfl rfl ?_
  refine WL.mv rfl rfl ?_
  refine WL.appendN 5 1 rfl (by kernel_rfl) rfl rfl hb0.old0 (by omega) (by omega) (by omega) ?_; intro b35 c35 r35 h35
  refine WL.as rfl rfl ?_
  refine WL.nil ?_
  refine WQ.then ?_
  refine W.seq ?_
  refine W.region ?_
  refine WL.as rfl rfl ?_
  refine WL.nil ?_
  refine WQ.then ?_
  refine W.seq ?_
  refine W.block ?_
  -- LOOP
  refine W.pick [4, 6, 7, 8] rfl ?_
  refine W.loop (σ := Nat) (fun i => (i = 0 ∨ 64 * i < m)) (fun i => [(4, .pointer (some ⟨b4, 0, none⟩)), (6, .pointer (some ⟨b6, 0, none⟩)), (7, .slice (some ⟨b35, 64 * i, none⟩) (m - 64 * i) (c35 - 64 * i)), (8, .int .u64 (64 * i : Nat))]) (fun i => [(b35, .cells [(m, iv .u8 (bl)), (c35 - (m), r35)] 5), (b6, .cells [(8, iv .u32 (goF (h0F kl.length) (bl) i))] 225), (b4, .cells [(32, List.replicate 32 (.int .u8 0))] 23)]) (fun i => m - 64 * i) 0 rfl rfl (.inl rfl) ?_
  rintro i hi
  refine W.seq ?_
  refine W.seq ?_
  refine W.region ?_
  refine WL.mv rfl rfl ?_
  refine WL.val rfl (V_lenS (by kernel_rfl) rfl) ?_
  refine WL.val rfl (V_gtr rfl rfl) ?_
  refine WL.nil ?_
  refine WQ.then ?_
  refine W.cond_dec rfl (fun g1 => ?_) (fun g1 => ?_)
  ·
    refine W.skip ?_
    refine WQ.then ?_
    refine W.block ?_
    refine W.seq ?_
    refine W.region ?_
    refine WL.mv rfl rfl ?_
    refine WL.val rfl (V_add rfl rfl) ?_
    refine WL.as rfl rfl ?_
    refine WL.nil ?_
    refine WQ.then ?_
    refine W.seq ?_
    refine W.region ?_
    rw [Go.IntWalk.u64_in _ (by omega)]
    refine WL.mv rfl rfl ?_
    refine WL.val rfl (V_s2p (n := 64) (s := 1) (by kernel_rfl) (by omega) rfl) ?_
    refine WL.mv rfl rfl ?_
    refine WL.mod _ rfl (by kernel_rfl) rfl (by repeat (first | exact Upd.here _ _ | apply Upd.there)) (fun w hp => into_calls b6 b35 (64 * i) (goF (h0F kl.length) (bl) i) (((bl).drop (64 * i)).take 64) _ false 225 w (hp.held (b6, .cells [(8, iv .u32 (goF (h0F kl.length) (bl) i))] 225) (by simp)) (goF_len h0F_len _) (by have := (Sr.part (o := 64 * i) (m := 64) (by repeat (first | exact At.head | exact At.headR | apply At.tail)) iv_one (by omega)) w hp; rwa [iv_drop, iv_take] at this) ((hab.drop _).take _) (ne_of hp (by repeat (first | exact List.Sublist.refl _ | exact List.nil_sublist _ | refine List.Sublist.cons_cons _ ?_ | refine List.Sublist.cons _ ?_)))) ?_
    refine WL.nil ?_
    refine WQ.then ?_
    refine W.region ?_
    refine WL.mv rfl rfl ?_
    refine WL.val rfl (V_sliceN (s := 1) (l := 64) (h := m - 64 * i) (m - 64 * (i + 1)) (c35 - 64 * (i + 1)) (by kernel_rfl) rfl (.yes rfl rfl) .no (by omega) (by omega) (by omega) (by omega)) ?_
    refine WL.as rfl rfl ?_
    refine WL.nil ?_
    refine WQ.block_normal ?_
    exact WQ.again (i + 1) [4, 6, 7, 8] (by show i + 1 = 0 ∨ 64 * (i + 1) < m; omega) (by show m - 64 * (i + 1) < m - 64 * i; omega) rfl (by repeat (first | exact List.Sublist.refl _ | exact List.nil_sublist _ | refine List.Sublist.cons_cons _ ?_ | refine List.Sublist.cons _ ?_))
  ·
    refine W.exit ?_
    refine WQ.then_exit ?_
    refine WQ.then_exit ?_
    refine WQ.block_hit ?_
    refine WQ.then ?_
    refine W.seq ?_
    refine W.region ?_
    refine WL.new rfl (E_alloc (zs := [(64, List.replicate 64 (.int .u8 0))]) ⟨by kernel_rfl, by repeat (first | exact Fit.nil | refine Fit.mk (by first | rfl | (simp; done) | (simp [iv_len]; done) | simp [iv_len, *]) ?_)⟩) ?_; intro b9
    refine WL.nil ?_
    refine WQ.then ?_
    refine W.seq ?_
    refine W.region ?_
    refine WL.mv rfl rfl ?_
    refine WL.val rfl (V_slicePN (s := 1) (len := 64) (l := 0) (h := 64) 64 64 (by kernel_rfl) rfl .no .no rfl rfl (by decide) (by decide)) ?_
    refine WL.mv rfl rfl ?_
    refine WL.copy ([(64, iv .u8 (lastL (bl) i))]) rfl (by kernel_rfl) rfl rfl ((Sr.part (o := 64 * i) (m := m - 64 * i) (by repeat (first | exact At.head | exact At.headR | apply At.tail)) iv_one (by omega))) (by repeat (first | exact Upd.here _ _ | apply Upd.there)) (by simp [flat, iv_len]; try omega) (fun _ => Fit.mk (by rw [iv_len, lastL_len (by omega)]) Fit.nil) (lastCopy (i := i) hal (by omega)) ?_
    refine WL.val rfl (V_convN (k' := .u64) rfl (by kernel_rfl) (by kernel_rfl) (Go.IntWalk.u64_in _ (by omega))) ?_
    refine WL.val rfl (V_add rfl rfl) ?_
    refine WL.as rfl rfl ?_
    refine WL.nil ?_
    refine WQ.then ?_
    refine W.seq ?_
    refine W.region ?_
    rw [show IntKind.u64.wrap (((64 * i : Nat) : Int) + ((min (m - 64 * i) 64 : Nat) : Int)) = ((m : Nat) : Int) from by rw [Go.IntWalk.u64_in _ (by omega)]; omega]
    refine WL.mv rfl rfl ?_
    refine WL.mod _ rfl (by kernel_rfl) rfl (by repeat (first | exact Upd.here _ _ | apply Upd.there)) (fun w hp => into_calls b6 b9 (0) (goF (h0F kl.length) (bl) i) (lastL (bl) i) _ true 225 w (hp.held (b6, .cells [(8, iv .u32 (goF (h0F kl.length) (bl) i))] 225) (by simp)) (goF_len h0F_len _) (Sr.all (by repeat (first | exact At.head | exact At.headR | apply At.tail)) iv_one w hp) (lastL_bytes hab i) (ne_of hp (by repeat (first | exact List.Sublist.refl _ | exact List.nil_sublist _ | refine List.Sublist.cons_cons _ ?_ | refine List.Sublist.cons _ ?_)))) ?_
    refine WL.nil ?_
    refine WQ.then ?_
    refine W.seq ?_
    refine W.region ?_
    refine WL.new rfl (E_alloc (zs := [(32, List.replicate 32 (.int .u8 0))]) ⟨by kernel_rfl, by repeat (first | exact Fit.nil | refine Fit.mk (by first | rfl | (simp; done) | (simp [iv_len]; done) | simp [iv_len, *]) ?_)⟩) ?_; intro b10
    refine WL.nil ?_
    refine WQ.then ?_
    refine W.seq ?_
    refine W.seq ?_
    refine W.region ?_
    refine WL.mv rfl rfl ?_
    refine WL.nil ?_
    refine WQ.then ?_
    refine W.block ?_
    -- LOOP
    rw [iv_rep]
    refine W.pick [4, 6, 10, 55] rfl ?_
    refine W.sub (L' := [(b10, .cells [(32, iv .u8 (List.replicate 32 0))] 23), (b6, .cells [(8, iv .u32 (intoF (goF (h0F kl.length) (bl) i) (lastL (bl) i) ((m : Nat) : Int) true))] 225), (b4, .cells [(32, List.replicate 32 (.int .u8 0))] 23)]) (by repeat (first | exact List.Sublist.refl _ | exact List.nil_sublist _ | refine List.Sublist.cons_cons _ ?_ | refine List.Sublist.cons _ ?_)) ?_
    refine W.loop (σ := Nat) (fun j => j ≤ 32) (fun j => [(4, .pointer (some ⟨b4, 0, none⟩)), (6, .pointer (some ⟨b6, 0, none⟩)), (10, .pointer (some ⟨b10, 0, none⟩)), (55, .int .i64 (j : Nat))]) (fun j => [(b10, .cells [(32, iv .u8 ((outF (intoF (goF (h0F kl.length) (bl) i) (lastL (bl) i) ((m : Nat) : Int) true)).take j ++ List.replicate (32 - j) 0))] 23), (b6, .cells [(8, iv .u32 (intoF (goF (h0F kl.length) (bl) i) (lastL (bl) i) ((m : Nat) : Int) true))] 225), (b4, .cells [(32, List.replicate 32 (.int .u8 0))] 23)]) (fun j => 32 - j) 0 rfl rfl (Nat.zero_le _) ?_
    rintro j hj
    refine W.seq ?_
    refine W.region ?_
    have hHF : (intoF (goF (h0F kl.length) (bl) i) (lastL (bl) i) ((m : Nat) : Int) true).length = 8 := intoF_len
    refine WL.val rfl (V_lss rfl rfl) ?_
    refine WL.nil ?_
    refine WQ.then ?_
    refine W.seq ?_
    refine W.cond_dec rfl (fun g2 => ?_) (fun g2 => ?_)
    ·
      refine W.skip ?_
      refine WQ.then ?_
      refine W.seq ?_
      refine W.block ?_
      refine W.seq ?_
      refine W.region ?_
      refine WL.mv rfl rfl ?_
      refine WL.as rfl rfl ?_
      refine WL.nil ?_
      refine WQ.then ?_
      refine W.region ?_
      refine WL.mv rfl rfl ?_
      refine WL.mv rfl rfl ?_
      first | refine WL.val rfl (V_quoN rfl rfl (by omega) (by omega) (by omega)) ?_ | refine WL.val rfl (V_quo rfl rfl (by omega)) ?_
      refine WL.val rfl (V_idxA1 (n := 8) (j / 4) (by kernel_rfl) rfl rfl (by omega) (by omega)) ?_
      refine WL.val rfl (V_loadIv (j / 4) (by kernel_rfl) rfl (by repeat (first | exact At.head | exact AtW.at ‹_› (by simp) | apply At.tail)) rfl (by rw [hHF]; omega)) ?_
      refine WL.mv rfl rfl ?_
      first | refine WL.val rfl (V_remN rfl rfl (by omega) (by omega)) ?_ | refine WL.val rfl (V_rem rfl rfl (by omega)) ?_
      first | refine WL.val rfl (V_mulN rfl rfl (by omega)) ?_ | refine WL.val rfl (V_mul rfl rfl) ?_
      refine WL.val rfl (V_shr rfl rfl (by omega)) ?_
      refine WL.val rfl (V_conv (k' := .u8) rfl (by kernel_rfl) (by kernel_rfl)) ?_
      refine WL.val rfl (V_idxA1 (n := 32) (j) (by kernel_rfl) rfl rfl (by omega) (by omega)) ?_
      refine WL.storeIv j (by kernel_rfl) rfl rfl (by repeat (first | exact Upd.here _ _ | apply Upd.there)) rfl (by simp [outF_len]; omega) ?_; rw [show ((j : Int) % 4 * 8) = ((j % 4 : Nat) : Int) * 8 from by omega, outStep (by omega)]
      refine WL.nil ?_
      refine WQ.block_normal ?_
      refine WQ.then ?_
      refine W.region ?_
      first | refine WL.val rfl (V_addN rfl rfl (by omega)) ?_ | refine WL.val rfl (V_add rfl rfl) ?_
      refine WL.mv rfl rfl ?_
      refine WL.nil ?_
      exact WQ.again (j + 1) [4, 6, 10, 55] (by show j + 1 ≤ 32; omega) (by show 32 - (j + 1) < 32 - j; omega) rfl (by repeat (first | exact List.Sublist.refl _ | exact List.nil_sublist _ | refine List.Sublist.cons_cons _ ?_ | refine List.Sublist.cons _ ?_))
    ·
      refine W.exit ?_
      refine WQ.then_exit ?_
      refine WQ.then_exit ?_
      refine WQ.block_hit ?_
      refine WQ.then ?_
      refine W.seq ?_
      refine W.region ?_
      have hj : j = 32 := by omega
      subst hj; rw [show (outF (intoF (goF (h0F kl.length) (bl) i) (lastL (bl) i) ((m : Nat) : Int) true)).take 32 ++ List.replicate (32 - 32) 0 = macF kl bl from by rw [List.take_of_length_le (by rw [outF_len]; omega)]; simp only [Nat.sub_self, List.replicate_zero, List.append_nil]; exact (macEnd hal (by omega) (by rw [allF, if_pos hkn, List.nil_append]))]; have hml : (macF kl bl).length = 32 := macF_len
      refine WL.val rfl (V_loadA 32 (by kernel_rfl) rfl (by repeat (first | exact At.head | exact AtW.at ‹_› (by simp) | apply At.tail)) (by rfl)) ?_
      refine WL.storeA 32 (by kernel_rfl) rfl rfl (by first | rfl | (simp [flat]; done) | (simp [flat, iv_len]; done) | simp [flat, iv_len, *]) (by repeat (first | exact Fit.nil | refine Fit.mk (by first | rfl | (simp; done) | (simp [iv_len]; done) | simp [iv_len, *]) ?_)) (by first | (simp [flat, one]; done) | simp [flat, iv, one]) (by repeat (first | exact Upd.here _ _ | apply Upd.there)) (by rfl) ?_
      refine WL.as rfl rfl ?_
      refine WL.nil ?_
      refine WQ.then ?_
      refine W.ret ?_
      refine WQ.ret2 Tryz.results96 (.cellA 32 (by kernel_rfl) rfl (by repeat (first | exact At.head | exact AtW.at ‹_› (by simp) | apply At.tail)) (by rfl)) (.tmp rfl) ?_
      intro w' hp; exact ⟨rfl, hp.forget⟩

set_option maxHeartbeats 2000000 in
theorem mac_a (A BA : Option Addr) (n kcap m bcap : Nat) (kl bl : List Int) (w : World) (hk : SrW w 1 A n (iv .u8 kl)) (hkb : bytes kl) (hkc : n ≤ kcap) (hk32 : n ≤ 32) (hb0 : SrW w 1 BA m (iv .u8 bl)) (hbb : bytes bl) (hbc : m ≤ bcap) (hm : m ≤ 4000000) (h0 : n = 0) (h1 : m = 0) :
    Calls Tryz.prog 96 [.slice A n kcap, .slice BA m bcap].toArray w fun e w' => e = .returned (.tuple #[AG [(32, iv .u8 (macF kl bl))], .int .i64 0]) ∧ HP w w' [] [] := by
  have hkl : kl.length = n := by have := hk.1; rw [iv_len] at this; omega
  have hbl : bl.length = m := by have := hb0.1; rw [iv_len] at this; omega
  have hkn : kl = [] := List.length_eq_zero_iff.1 (by omega)
  have hbn : bl = [] := List.length_eq_zero_iff.1 (by omega)
  subst h1
  refine calls_of_W Tryz.func96 rfl Tryz.ntmps96 rfl rfl (HP.refl w []) ?_
  refine W.seq ?_
  refine W.region ?_
  refine WL.new rfl (E_alloc (zs := [(32, List.replicate 32 (.int .u8 0))]) ⟨by kernel_rfl, by repeat (first | exact Fit.nil | refine Fit.mk (by first | rfl | (simp; done) | (simp [iv_len]; done) | simp [iv_len, *]) ?_)⟩) ?_; intro b4
  refine WL.as rfl rfl ?_
  refine WL.nil ?_
  refine WQ.then ?_
  refine W.seq ?_
  refine W.seq ?_
  refine W.region ?_
  refine WL.mv rfl rfl ?_
  refine WL.val rfl (V_lenS (by kernel_rfl) rfl) ?_
  refine WL.val rfl (V_gtr rfl rfl) ?_
  refine WL.nil ?_
  refine WQ.then ?_
  refine W.cond_false rfl (decide_eq_false (by omega)) ?_
  refine W.skip ?_
  refine WQ.then ?_
  refine W.seq ?_
  refine W.region ?_
  refine WL.pure _ rfl (by kernel_rfl) rfl (fun w hp => first_calls w) ?_
  refine WL.new rfl (E_alloc (zs := [(8, List.replicate 8 (.int .u32 0))]) ⟨by kernel_rfl, by repeat (first | exact Fit.nil | refine Fit.mk (by first | rfl | (simp; done) | (simp [iv_len]; done) | simp [iv_len, *]) ?_)⟩) ?_; intro b6
  refine WL.storeA 8 (by kernel_rfl) rfl rfl (by first | rfl | (simp [flat]; done) | (simp [flat, iv_len]; done) | simp [flat, iv_len, *]) (by repeat (first | exact Fit.nil | refine Fit.mk (by first | rfl | (simp; done) | (simp [iv_len]; done) | simp [iv_len, *]) ?_)) (by first | (simp [flat, one]; done) | simp [flat, iv, one]) (by repeat (first | exact Upd.here _ _ | apply Upd.there)) (by rfl) ?_
  refine WL.nil ?_
  refine WQ.then ?_
  refine W.seq ?_
  refine W.region ?_
  refine WL.val rfl (V_idxA1 (n := 8) (0) (by kernel_rfl) rfl rfl (by omega) (by omega)) ?_
  refine WL.val rfl (V_loadIv 0 (by kernel_rfl) rfl (by repeat (first | exact At.head | exact AtW.at ‹_› (by simp) | apply At.tail)) rfl (by decide)) ?_
  refine WL.mv rfl rfl ?_
  refine WL.val rfl (V_lenS (by kernel_rfl) rfl) ?_
  refine WL.val rfl (V_conv (k' := .u32) rfl (by kernel_rfl) (by kernel_rfl)) ?_
  refine WL.val rfl (V_shl rfl rfl (by omega)) ?_
  refine WL.val rfl (V_xor rfl rfl) ?_
  refine WL.val rfl (V_xor rfl rfl) ?_
  refine WL.val rfl (V_idxA1 (n := 8) (0) (by kernel_rfl) rfl rfl (by omega) (by omega)) ?_
  refine WL.storeIv 0 (by kernel_rfl) rfl rfl (by repeat (first | exact Upd.here _ _ | apply Upd.there)) rfl (by decide) ?_; rw [show firstL.set 0 _ = h0F kl.length from by rw [h0F, hkl]]
  refine WL.nil ?_
  refine WQ.then ?_
  refine W.seq ?_
  refine W.region ?_
  refine WL.as rfl rfl ?_
  refine WL.nil ?_
  refine WQ.then ?_
  refine W.seq ?_
  refine W.seq ?_
  refine W.region ?_
  refine WL.mv rfl rfl ?_
  refine WL.val rfl (V_lenS (by kernel_rfl) rfl) ?_
  refine WL.val rfl (V_gtr rfl rfl) ?_
  refine WL.nil ?_
  refine WQ.then ?_
  refine W.cond_false rfl (decide_eq_false (by omega)) ?_
  refine W.skip ?_
  refine WQ.then ?_
  refine W.seq ?_
  refine W.region ?_
  refine WL.mv rfl rfl ?_
  refine WL.mv rfl rfl ?_
  refine WL.val rfl (V_append0 5 1 (by kernel_rfl) rfl rfl (Nat.zero_le _)) ?_
  refine WL.as rfl rfl ?_
  refine WL.nil ?_
  refine WQ.then ?_
  refine W.seq ?_
  refine W.region ?_
  refine WL.as rfl rfl ?_
  refine WL.nil ?_
  refine WQ.then ?_
  refine W.seq ?_
  refine W.block ?_
  -- LOOP
  refine W.pick [4, 6, 7, 8] rfl ?_
  refine W.loop (σ := Unit) (fun _ => True) (fun _ => [(4, .pointer (some ⟨b4, 0, none⟩)), (6, .pointer (some ⟨b6, 0, none⟩)), (7, .slice none 0 0), (8, .int .u64 0)]) (fun _ => [(b6, .cells [(8, iv .u32 (h0F kl.length))] 225), (b4, .cells [(32, List.replicate 32 (.int .u8 0))] 23)]) (fun _ => 0) () rfl rfl trivial ?_
  rintro _ _
  refine W.seq ?_
  refine W.seq ?_
  refine W.region ?_
  refine WL.mv rfl rfl ?_
  refine WL.val rfl (V_lenS (by kernel_rfl) rfl) ?_
  refine WL.val rfl (V_gtr rfl rfl) ?_
  refine WL.nil ?_
  refine WQ.then ?_
  refine W.cond_false rfl (by decide) ?_
  refine W.exit ?_
  refine WQ.then_exit ?_
  refine WQ.then_exit ?_
  refine WQ.block_hit ?_
  refine WQ.then ?_
  refine W.seq ?_
  refine W.region ?_
  refine WL.new rfl (E_alloc (zs := [(64, List.replicate 64 (.int .u8 0))]) ⟨by kernel_rfl, by repeat (first | exact Fit.nil | refine Fit.mk (by first | rfl | (simp; done) | (simp [iv_len]; done) | simp [iv_len, *]) ?_)⟩) ?_; intro b9
  refine WL.nil ?_
  refine WQ.then ?_
  refine W.seq ?_
  refine W.region ?_
  refine WL.mv rfl rfl ?_
  refine WL.val rfl (V_slicePN (s := 1) (len := 64) (l := 0) (h := 64) 64 64 (by kernel_rfl) rfl .no .no rfl rfl (by decide) (by decide)) ?_
  refine WL.mv rfl rfl ?_
  refine WL.copy ([(64, iv .u8 (lastL [] 0))]) rfl (by kernel_rfl) rfl rfl (SrW.nil.old0) (by repeat (first | exact Upd.here _ _ | apply Upd.there)) (by simp [flat]) (fun _ => Fit.mk rfl Fit.nil) (by rfl) ?_
  refine WL.val rfl (V_convN (k' := .u64) rfl (by kernel_rfl) (by kernel_rfl) (Go.IntWalk.u64_in _ (by omega))) ?_
  refine WL.val rfl (V_add rfl rfl) ?_
  refine WL.as rfl rfl ?_
  refine WL.nil ?_
  refine WQ.then ?_
  refine W.seq ?_
  refine W.region ?_
  rw [show IntKind.u64.wrap (0 + ((min 0 64 : Nat) : Int)) = ((0 : Nat) : Int) from by rfl]
  refine WL.mv rfl rfl ?_
  refine WL.mod _ rfl (by kernel_rfl) rfl (by repeat (first | exact Upd.here _ _ | apply Upd.there)) (fun w hp => into_calls b6 b9 0 (h0F kl.length) (lastL [] 0) _ true 225 w (hp.held (b6, .cells [(8, iv .u32 (h0F kl.length))] 225) (by simp)) h0F_len (Sr.all (by repeat (first | exact At.head | exact At.headR | apply At.tail)) iv_one w hp) (lastL_bytes (fun c hc => by cases hc) 0) (ne_of hp (by repeat (first | exact List.Sublist.refl _ | exact List.nil_sublist _ | refine List.Sublist.cons_cons _ ?_ | refine List.Sublist.cons _ ?_)))) ?_
  refine WL.nil ?_
  refine WQ.then ?_
  refine W.seq ?_
  refine W.region ?_
  refine WL.new rfl (E_alloc (zs := [(32, List.replicate 32 (.int .u8 0))]) ⟨by kernel_rfl, by repeat (first | exact Fit.nil | refine Fit.mk (by first | rfl | (simp; done) | (simp [iv_len]; done) | simp [iv_len, *]) ?_)⟩) ?_; intro b10
  refine WL.nil ?_
  refine WQ.then ?_
  refine W.seq ?_
  refine W.seq ?_
  refine W.region ?_
  refine WL.mv rfl rfl ?_
  refine WL.nil ?_
  refine WQ.then ?_
  refine W.block ?_
  -- LOOP
  rw [iv_rep]
  refine W.pick [4, 6, 10, 55] rfl ?_
  refine W.sub (L' := [(b10, .cells [(32, iv .u8 (List.replicate 32 0))] 23), (b6, .cells [(8, iv .u32 (intoF (h0F kl.length) (lastL [] 0) ((0 : Nat) : Int) true))] 225), (b4, .cells [(32, List.replicate 32 (.int .u8 0))] 23)]) (by repeat (first | exact List.Sublist.refl _ | exact List.nil_sublist _ | refine List.Sublist.cons_cons _ ?_ | refine List.Sublist.cons _ ?_)) ?_
  refine W.loop (σ := Nat) (fun j => j ≤ 32) (fun j => [(4, .pointer (some ⟨b4, 0, none⟩)), (6, .pointer (some ⟨b6, 0, none⟩)), (10, .pointer (some ⟨b10, 0, none⟩)), (55, .int .i64 (j : Nat))]) (fun j => [(b10, .cells [(32, iv .u8 ((outF (intoF (h0F kl.length) (lastL [] 0) ((0 : Nat) : Int) true)).take j ++ List.replicate (32 - j) 0))] 23), (b6, .cells [(8, iv .u32 (intoF (h0F kl.length) (lastL [] 0) ((0 : Nat) : Int) true))] 225), (b4, .cells [(32, List.replicate 32 (.int .u8 0))] 23)]) (fun j => 32 - j) 0 rfl rfl (Nat.zero_le _) ?_
  rintro j hj
  refine W.seq ?_
  refine W.region ?_
  have hHF : (intoF (h0F kl.length) (lastL [] 0) ((0 : Nat) : Int) true).length = 8 := intoF_len
  refine WL.val rfl (V_lss rfl rfl) ?_
  refine WL.nil ?_
  refine WQ.then ?_
  refine W.seq ?_
  refine W.cond_dec rfl (fun g1 => ?_) (fun g1 => ?_)
  ·
    refine W.skip ?_
    refine WQ.then ?_
    refine W.seq ?_
    refine W.block ?_
    refine W.seq ?_
    refine W.region ?_
    refine WL.mv rfl rfl ?_
    refine WL.as rfl rfl ?_
    refine WL.nil ?_
    refine WQ.then ?_
    refine W.region ?_
    refine WL.mv rfl rfl ?_
    refine WL.mv rfl rfl ?_
    first | refine WL.val rfl (V_quoN rfl rfl (by omega) (by omega) (by omega)) ?_ | refine WL.val rfl (V_quo rfl rfl (by omega)) ?_
    refine WL.val rfl (V_idxA1 (n := 8) (j / 4) (by kernel_rfl) rfl rfl (by omega) (by omega)) ?_
    refine WL.val rfl (V_loadIv (j / 4) (by kernel_rfl) rfl (by repeat (first | exact At.head | exact AtW.at ‹_› (by simp) | apply At.tail)) rfl (by rw [hHF]; omega)) ?_
    refine WL.mv rfl rfl ?_
    first | refine WL.val rfl (V_remN rfl rfl (by omega) (by omega)) ?_ | refine WL.val rfl (V_rem rfl rfl (by omega)) ?_
    first | refine WL.val rfl (V_mulN rfl rfl (by omega)) ?_ | refine WL.val rfl (V_mul rfl rfl) ?_
    refine WL.val rfl (V_shr rfl rfl (by omega)) ?_
    refine WL.val rfl (V_conv (k' := .u8) rfl (by kernel_rfl) (by kernel_rfl)) ?_
    refine WL.val rfl (V_idxA1 (n := 32) (j) (by kernel_rfl) rfl rfl (by omega) (by omega)) ?_
    refine WL.storeIv j (by kernel_rfl) rfl rfl (by repeat (first | exact Upd.here _ _ | apply Upd.there)) rfl (by simp [outF_len]; omega) ?_; rw [show ((j : Int) % 4 * 8) = ((j % 4 : Nat) : Int) * 8 from by omega, outStep (by omega)]
    refine WL.nil ?_
    refine WQ.block_normal ?_
    refine WQ.then ?_
    refine W.region ?_
    first | refine WL.val rfl (V_addN rfl rfl (by omega)) ?_ | refine WL.val rfl (V_add rfl rfl) ?_
    refine WL.mv rfl rfl ?_
    refine WL.nil ?_
    exact WQ.again (j + 1) [4, 6, 10, 55] (by show j + 1 ≤ 32; omega) (by show 32 - (j + 1) < 32 - j; omega) rfl (by repeat (first | exact List.Sublist.refl _ | exact List.nil_sublist _ | refine List.Sublist.cons_cons _ ?_ | refine List.Sublist.cons _ ?_))
  ·
    refine W.exit ?_
    refine WQ.then_exit ?_
    refine WQ.then_exit ?_
    refine WQ.block_hit ?_
    refine WQ.then ?_
    refine W.seq ?_
    refine W.region ?_
    have hj : j = 32 := by omega
    subst hj; rw [show (outF (intoF (h0F kl.length) (lastL [] 0) ((0 : Nat) : Int) true)).take 32 ++ List.replicate (32 - 32) 0 = macF kl bl from by rw [List.take_of_length_le (by rw [outF_len]; omega)]; simp only [Nat.sub_self, List.replicate_zero, List.append_nil]; subst hkn; subst hbn; rfl]; have hml : (macF kl bl).length = 32 := macF_len
    refine WL.val rfl (V_loadA 32 (by kernel_rfl) rfl (by repeat (first | exact At.head | exact AtW.at ‹_› (by simp) | apply At.tail)) (by rfl)) ?_
    refine WL.storeA 32 (by kernel_rfl) rfl rfl (by first | rfl | (simp [flat]; done) | (simp [flat, iv_len]; done) | simp [flat, iv_len, *]) (by repeat (first | exact Fit.nil | refine Fit.mk (by first | rfl | (simp; done) | (simp [iv_len]; done) | simp [iv_len, *]) ?_)) (by first | (simp [flat, one]; done) | simp [flat, iv, one]) (by repeat (first | exact Upd.here _ _ | apply Upd.there)) (by rfl) ?_
    refine WL.as rfl rfl ?_
    refine WL.nil ?_
    refine WQ.then ?_
    refine W.ret ?_
    refine WQ.ret2 Tryz.results96 (.cellA 32 (by kernel_rfl) rfl (by repeat (first | exact At.head | exact AtW.at ‹_› (by simp) | apply At.tail)) (by rfl)) (.tmp rfl) ?_
    intro w' hp; exact ⟨rfl, hp.forget⟩

theorem mac_calls (A BA : Option Addr) (n kcap m bcap : Nat) (kl bl : List Int) (w : World) (hk : SrW w 1 A n (iv .u8 kl)) (hkb : bytes kl) (hkc : n ≤ kcap) (hk32 : n ≤ 32) (hb0 : SrW w 1 BA m (iv .u8 bl)) (hbb : bytes bl) (hbc : m ≤ bcap) (hm : m ≤ 4000000) :
    Calls Tryz.prog 96 [.slice A n kcap, .slice BA m bcap].toArray w fun e w' => e = .returned (.tuple #[AG [(32, iv .u8 (macF kl bl))], .int .i64 0]) ∧ HP w w' [] [] := by
  by_cases h0 : 0 < n
  · exact mac_c A BA n kcap m bcap kl bl w hk hkb hkc hk32 hb0 hbb hbc hm h0
  by_cases h1 : 0 < m
  · exact mac_b A BA n kcap m bcap kl bl w hk hkb hkc hk32 hb0 hbb hbc hm (by omega) h1
  · exact mac_a A BA n kcap m bcap kl bl w hk hkb hkc hk32 hb0 hbb hbc hm (by omega) (by omega)

end Go.Proofs.YtmeckbjinmgbbaaGreat