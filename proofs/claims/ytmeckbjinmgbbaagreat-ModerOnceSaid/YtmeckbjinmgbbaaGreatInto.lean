/- BLAKE2s: how a block goes into the words, by package blake. -/
import Derived.Test.YtmeckbjinmgbbaaGreatBlake2
set_option linter.unusedVariables false
set_option linter.unusedSimpArgs false

namespace Go.Proofs.YtmeckbjinmgbbaaGreat
open Go.X
def gi (l : List Int) (i : Int) : Int := l.getD i.toNat 0
def colF (m s : List Int) : Nat → List Int → List Int
  | 0, v => v
  | k + 1, v => mixF (colF m s k v) k (4 + k) (8 + k) (12 + k) (gi m (s.getD (2 * k) 0)) (gi m (s.getD (2 * k + 1) 0))
def diaF (m s : List Int) : Nat → List Int → List Int
  | 0, v => v
  | k + 1, v => mixF (diaF m s k v) k (4 + (k + 1) % 4) (8 + (k + 2) % 4) (12 + (k + 3) % 4) (gi m (s.getD (2 * k + 8) 0)) (gi m (s.getD (2 * k + 9) 0))
def rouF (m : List Int) : Nat → List Int → List Int
  | 0, v => v
  | i + 1, v => diaF m (sig i) 4 (colF m (sig i) 4 (rouF m i v))
def msgF (bl : List Int) : List Int := (List.range 16).map fun i => IntKind.u32.wrap (numH ((bl.drop (4 * i)).take 4).reverse)
def st1 (h : List Int) (t : Int) : List Int := (h ++ firstL).set 12 (xorI .u32 ((h ++ firstL).getD 12 0) (IntKind.u32.wrap t))
def st2 (h : List Int) (t : Int) : List Int := (st1 h t).set 13 (xorI .u32 ((st1 h t).getD 13 0) (IntKind.u32.wrap (shrI .u64 t 32)))
def st3 (h : List Int) (t : Int) (last : Bool) : List Int := if last then (st2 h t).set 14 (xorI .u32 4294967295 ((st2 h t).getD 14 0)) else st2 h t
def fin1 (h v : List Int) (i : Nat) : Int := xorI .u32 (h.getD i 0) (xorI .u32 (v.getD i 0) (v.getD (i + 8) 0))
def finF (h v : List Int) : List Int := (List.range 8).map (fin1 h v)
def intoF (h bl : List Int) (t : Int) (last : Bool) : List Int := finF h (rouF (msgF bl) 10 (st3 h t last))
theorem colF_len {m s v : List Int} : ∀ k, (colF m s k v).length = v.length
  | 0 => rfl
  | k + 1 => by rw [colF, mixF_len, colF_len k]
theorem diaF_len {m s v : List Int} : ∀ k, (diaF m s k v).length = v.length
  | 0 => rfl
  | k + 1 => by rw [diaF, mixF_len, diaF_len k]
theorem rouF_len {m v : List Int} : ∀ k, (rouF m k v).length = v.length
  | 0 => rfl
  | k + 1 => by rw [rouF, diaF_len, colF_len, rouF_len k]
theorem st3_len {h : List Int} {t : Int} {last : Bool} (hh : h.length = 8) : (st3 h t last).length = 16 := by
  have : firstL.length = 8 := rfl
  cases last <;> simp [st3, st2, st1, hh, this]
theorem msgF_len {bl : List Int} : (msgF bl).length = 16 := by simp [msgF]
theorem finF_len {h v : List Int} : (finF h v).length = 8 := by simp [finF]
theorem sig_len {i : Nat} (h : i < 10) : (sig i).length = 16 := by
  have : sigAll.length = 160 := rfl
  simp [sig, this]; omega
theorem sig_bd (j i : Nat) : 0 ≤ (sig j).getD i 0 ∧ (sig j).getD i 0 < 16 := by
  have hall : ∀ x ∈ sigAll, 0 ≤ x ∧ x < 16 := fun x hx => by
    have h : (sigAll.all fun x => decide (0 ≤ x ∧ x < 16)) = true := by kernel_rfl
    simpa using List.all_eq_true.1 h x hx
  rw [List.getD_eq_getElem?_getD]
  cases hg : (sig j)[i]? with
  | none => simp
  | some c => exact hall c (List.drop_subset _ _ (List.take_subset _ _ (List.mem_of_getElem? hg)))
theorem fillStep {f : Nat → Int} {n i : Nat} (h : i < n) : ((List.range i).map f ++ List.replicate (n - i) 0).set i (f i) = (List.range (i + 1)).map f ++ List.replicate (n - (i + 1)) 0 := by
  rw [show n - i = (n - (i + 1)) + 1 by omega, List.replicate_succ, List.set_append_right _ _ (by simp), List.range_succ]
  simp
theorem msgStep {bl : List Int} {i : Nat} (h : i < 16) : ((msgF bl).take i ++ List.replicate (16 - i) 0).set i (IntKind.u32.wrap (numH ((((bl.drop (4 * i)).take 4).take 8).reverse))) = (msgF bl).take (i + 1) ++ List.replicate (16 - (i + 1)) 0 := by
  have e : ∀ k, k ≤ 16 → (msgF bl).take k = (List.range k).map fun i => IntKind.u32.wrap (numH ((bl.drop (4 * i)).take 4).reverse) := fun k hk => by
    rw [msgF, ← List.map_take, List.take_range, Nat.min_eq_left hk]
  rw [e i (by omega), e (i + 1) (by omega), List.take_take, show min 8 4 = 4 from rfl]
  exact fillStep h
theorem finStep {h v : List Int} {i : Nat} (hi : i < 8) (hh : h.length = 8) : ((finF h v).take i ++ h.drop i).set i (xorI .u32 (((finF h v).take i ++ h.drop i).getD i 0) (xorI .u32 (v.getD i 0) (v.getD (i + 8) 0))) = (finF h v).take (i + 1) ++ h.drop (i + 1) := by
  have e : ∀ k, k ≤ 8 → (finF h v).take k = (List.range k).map (fin1 h v) := fun k hk => by
    rw [finF, ← List.map_take, List.take_range, Nat.min_eq_left hk]
  rw [e i (by omega), e (i + 1) (by omega)]
  have hd : h.drop i = h.getD i 0 :: h.drop (i + 1) := by
    rw [List.drop_eq_getElem_cons (by omega)]; simp [List.getElem?_eq_getElem (show i < h.length by omega)]
  have hg : ((List.range i).map (fin1 h v) ++ h.drop i).getD i 0 = h.getD i 0 := by
    rw [hd]; simp [List.getD_eq_getElem?_getD]
  rw [hg, hd, List.set_append_right _ _ (by simp), List.range_succ]
  simp [fin1]

set_option maxHeartbeats 2000000 in
theorem into_calls (bh bb bo : Nat) (h bl : List Int) (t : Int) (last : Bool) (T : TypeId) (w : World) (hv : (Blk.cells [(8, iv .u32 h)] T).Is w.heap[bh]?) (hh : h.length = 8) (hs : SrW w 1 (some ⟨bb, bo, none⟩) 64 (iv .u8 bl)) (hb : bytes bl) (hne : bb ≠ bh) :
    Calls Tryz.prog 126 [.pointer (some ⟨bh, 0, none⟩), .pointer (some ⟨bb, bo, none⟩), .int .u64 t, .bool last].toArray w fun e w' => e = .returned (.tuple #[]) ∧ HP w w' [bh] [(bh, .cells [(8, iv .u32 (intoF h bl t last))] T)] := by
  have hbl : bl.length = 64 := by have := hs.1; rw [iv_len] at this; omega
  have hv16 : (h ++ firstL).length = 16 := by rw [List.length_append, hh]; rfl
  have hs1 : (st1 h t).length = 16 := by simp [st1, hv16]
  have hs2 : (st2 h t).length = 16 := by simp [st2, hs1]
  refine calls_of_W Tryz.func126 rfl Tryz.ntmps126 rfl rfl (HP.start (O := [bh]) (L := [(bh, .cells [(8, iv .u32 h)] T)]) (by simpa using hv) (by simp) (by simp)) ?_
  refine W.seq ?_
  refine W.region ?_
  refine WL.new rfl (E_alloc (zs := [(16, List.replicate 16 (.int .u32 0))]) ⟨by kernel_rfl, by repeat (first | exact Fit.nil | refine Fit.mk (by first | rfl | (simp; done) | (simp [iv_len]; done) | simp [iv_len, *]) ?_)⟩) ?_; intro b8
  refine WL.new rfl (E_alloc (zs := [(16, List.replicate 16 (.int .u32 0))]) ⟨by kernel_rfl, by repeat (first | exact Fit.nil | refine Fit.mk (by first | rfl | (simp; done) | (simp [iv_len]; done) | simp [iv_len, *]) ?_)⟩) ?_; intro b9
  refine WL.nil ?_
  refine WQ.then ?_
  refine W.seq ?_
  refine W.region ?_
  refine WL.pure _ rfl (by kernel_rfl) rfl (fun w hp => first_calls w) ?_
  refine WL.new rfl (E_alloc (zs := [(8, List.replicate 8 (.int .u32 0))]) ⟨by kernel_rfl, by repeat (first | exact Fit.nil | refine Fit.mk (by first | rfl | (simp; done) | (simp [iv_len]; done) | simp [iv_len, *]) ?_)⟩) ?_; intro b10
  refine WL.storeA 8 (by kernel_rfl) rfl rfl (by first | rfl | (simp [flat]; done) | (simp [flat, iv_len]; done) | simp [flat, iv_len, *]) (by repeat (first | exact Fit.nil | refine Fit.mk (by first | rfl | (simp; done) | (simp [iv_len]; done) | simp [iv_len, *]) ?_)) (by first | (simp [flat, one]; done) | simp [flat, iv, one]) (by repeat (first | exact Upd.here _ _ | apply Upd.there)) (by rfl) ?_
  refine WL.nil ?_
  refine WQ.then ?_
  refine W.seq ?_
  refine W.drawn (.q 0 (.q 1 (.q 2 (.q 3 (.l 4 (.done)))))) [] (by kernel_rfl) (fun _ a d _ _ h => by cases d <;> exact h) (by kernel_rfl) (by repeat (first | exact List.Sublist.refl _ | exact List.nil_sublist _ | refine List.Sublist.cons_cons _ ?_ | refine List.Sublist.cons _ ?_)) ?_
  rw [iv_rep]
  refine WD.q rfl rfl (V_slicePN (s := 1) (l := 0) (h := 8) 8 16 (by kernel_rfl) rfl .no (.yes rfl rfl) rfl rfl (by decide) (by decide)) ?_
  refine WD.q rfl rfl (V_move rfl) ?_
  refine WD.q rfl rfl (V_nil rfl) ?_
  refine WD.q rfl rfl (V_slicePN (s := 1) (l := 0) (h := 8) 8 8 (by kernel_rfl) rfl .no .no rfl rfl (by decide) (by decide)) ?_
  refine WD.l ?_
  refine WO.eff rfl rfl (by repeat (first | exact List.Sublist.refl _ | exact List.nil_sublist _ | refine List.Sublist.cons_cons _ ?_ | refine List.Sublist.cons _ ?_)) (E_copy (cs' := [(16, iv .u32 (h ++ List.replicate 8 0))]) (by kernel_rfl) rfl rfl (Sr.all (by repeat (first | exact At.head | exact AtW.at ‹_› (by simp) | apply At.tail)) (by first | exact iv_one | simp [one])) (by repeat (first | exact Upd.here _ _ | apply Upd.there)) (by simp [flat, iv_len, hh]) (fun _ => Fit.mk (by simp [iv_len, hh, firstL]) Fit.nil) (by simp [flat, iv, hh, List.take_of_length_le])) ?_; rintro _ _ ⟨rfl, rfl⟩; refine ⟨by simp, ?_⟩
  refine WD.done ?_
  refine WQ.then ?_
  refine W.seq ?_
  refine W.drawn (.q 0 (.q 1 (.l 2 (.done)))) [] (by kernel_rfl) (fun _ a d _ _ h => by cases d <;> exact h) (by kernel_rfl) (by repeat (first | exact List.Sublist.refl _ | exact List.nil_sublist _ | refine List.Sublist.cons_cons _ ?_ | refine List.Sublist.cons _ ?_)) ?_
  refine WD.q rfl rfl (V_slicePN (s := 1) (l := 8) (h := 16) 8 8 (by kernel_rfl) rfl (.yes rfl rfl) .no rfl rfl (by decide) (by decide)) ?_
  refine WD.q rfl rfl (V_slicePN (s := 1) (l := 0) (h := 8) 8 8 (by kernel_rfl) rfl .no .no rfl rfl (by decide) (by decide)) ?_
  refine WD.l ?_
  refine WO.eff rfl rfl (by repeat (first | exact List.Sublist.refl _ | exact List.nil_sublist _ | refine List.Sublist.cons_cons _ ?_ | refine List.Sublist.cons _ ?_)) (E_copy (cs' := [(16, iv .u32 (h ++ firstL))]) (by kernel_rfl) rfl rfl (Sr.all (by repeat (first | exact At.head | exact AtW.at ‹_› (by simp) | apply At.tail)) (by first | exact iv_one | simp [one])) (by repeat (first | exact Upd.here _ _ | apply Upd.there)) (by simp [flat, iv_len, hh]) (fun _ => Fit.mk (by simp [iv_len, hh, firstL]) Fit.nil) (by simp [flat, iv, hh, firstL, List.take_of_length_le])) ?_; rintro _ _ ⟨rfl, rfl⟩; refine ⟨by simp, ?_⟩
  refine WD.done ?_
  refine WQ.then ?_
  refine W.seq ?_
  refine W.region ?_
  refine WL.val rfl (V_idxA1 (n := 16) (12) (by kernel_rfl) rfl rfl (by omega) (by omega)) ?_
  refine WL.val rfl (V_loadIv (12) (by kernel_rfl) rfl (by repeat (first | exact At.head | exact AtW.at ‹_› (by simp) | apply At.tail)) rfl (by first | omega | (rw [msgF_len]; omega) | (rw [st3_len hh]; omega) | (rw [rouF_len, st3_len hh]; omega) | (rw [colF_len, rouF_len, st3_len hh]; omega) | (rw [diaF_len, colF_len, rouF_len, st3_len hh]; omega) | (rw [colF_len, rouF_len, st3_len hh]) | (rw [diaF_len, colF_len, rouF_len, st3_len hh]) | (simp only [List.length_append, List.length_take, List.length_replicate, List.length_drop, msgF_len, finF_len] <;> omega))) ?_
  refine WL.mv rfl rfl ?_
  refine WL.val rfl (V_conv (k' := .u32) rfl (by kernel_rfl) (by kernel_rfl)) ?_
  refine WL.val rfl (V_xor rfl rfl) ?_
  refine WL.val rfl (V_idxA1 (n := 16) (12) (by kernel_rfl) rfl rfl (by omega) (by omega)) ?_
  refine WL.storeIv (12) (by kernel_rfl) rfl rfl (by repeat (first | exact Upd.here _ _ | apply Upd.there)) rfl (by first | omega | (rw [msgF_len]; omega) | (rw [st3_len hh]; omega) | (rw [rouF_len, st3_len hh]; omega) | (rw [colF_len, rouF_len, st3_len hh]; omega) | (rw [diaF_len, colF_len, rouF_len, st3_len hh]; omega) | (rw [colF_len, rouF_len, st3_len hh]) | (rw [diaF_len, colF_len, rouF_len, st3_len hh]) | (simp only [List.length_append, List.length_take, List.length_replicate, List.length_drop, msgF_len, finF_len] <;> omega)) ?_; rw [show (h ++ firstL).set 12 _ = st1 h t from rfl]
  refine WL.nil ?_
  refine WQ.then ?_
  refine W.seq ?_
  refine W.region ?_
  refine WL.val rfl (V_idxA1 (n := 16) (13) (by kernel_rfl) rfl rfl (by omega) (by omega)) ?_
  refine WL.val rfl (V_loadIv (13) (by kernel_rfl) rfl (by repeat (first | exact At.head | exact AtW.at ‹_› (by simp) | apply At.tail)) rfl (by first | omega | (rw [msgF_len]; omega) | (rw [st3_len hh]; omega) | (rw [rouF_len, st3_len hh]; omega) | (rw [colF_len, rouF_len, st3_len hh]; omega) | (rw [diaF_len, colF_len, rouF_len, st3_len hh]; omega) | (rw [colF_len, rouF_len, st3_len hh]) | (rw [diaF_len, colF_len, rouF_len, st3_len hh]) | (simp only [List.length_append, List.length_take, List.length_replicate, List.length_drop, msgF_len, finF_len] <;> omega))) ?_
  refine WL.mv rfl rfl ?_
  refine WL.val rfl (V_shr rfl rfl (by omega)) ?_
  refine WL.val rfl (V_conv (k' := .u32) rfl (by kernel_rfl) (by kernel_rfl)) ?_
  refine WL.val rfl (V_xor rfl rfl) ?_
  refine WL.val rfl (V_idxA1 (n := 16) (13) (by kernel_rfl) rfl rfl (by omega) (by omega)) ?_
  refine WL.storeIv (13) (by kernel_rfl) rfl rfl (by repeat (first | exact Upd.here _ _ | apply Upd.there)) rfl (by first | omega | (rw [msgF_len]; omega) | (rw [st3_len hh]; omega) | (rw [rouF_len, st3_len hh]; omega) | (rw [colF_len, rouF_len, st3_len hh]; omega) | (rw [diaF_len, colF_len, rouF_len, st3_len hh]; omega) | (rw [colF_len, rouF_len, st3_len hh]) | (rw [diaF_len, colF_len, rouF_len, st3_len hh]) | (simp only [List.length_append, List.length_take, List.length_replicate, List.length_drop, msgF_len, finF_len] <;> omega)) ?_; rw [show (st1 h t).set 13 _ = st2 h t from rfl]
  refine WL.nil ?_
  refine WQ.then ?_
  refine W.seq ?_
  refine W.seq ?_
  refine W.region ?_
  refine WL.mv rfl rfl ?_
  refine WL.nil ?_
  refine WQ.then ?_
  apply W.join
  · intro hj
    refine W.cond rfl (fun g1 => ?_) (fun g1 => ?_)
    ·
      refine W.region ?_
      refine WL.val rfl (V_idxA1 (n := 16) (14) (by kernel_rfl) rfl rfl (by omega) (by omega)) ?_
      refine WL.val rfl (V_loadIv (14) (by kernel_rfl) rfl (by repeat (first | exact At.head | exact AtW.at ‹_› (by simp) | apply At.tail)) rfl (by first | omega | (rw [msgF_len]; omega) | (rw [st3_len hh]; omega) | (rw [rouF_len, st3_len hh]; omega) | (rw [colF_len, rouF_len, st3_len hh]; omega) | (rw [diaF_len, colF_len, rouF_len, st3_len hh]; omega) | (rw [colF_len, rouF_len, st3_len hh]) | (rw [diaF_len, colF_len, rouF_len, st3_len hh]) | (simp only [List.length_append, List.length_take, List.length_replicate, List.length_drop, msgF_len, finF_len] <;> omega))) ?_
      refine WL.val rfl (V_com rfl) ?_
      refine WL.val rfl (V_idxA1 (n := 16) (14) (by kernel_rfl) rfl rfl (by omega) (by omega)) ?_
      refine WL.storeIv (14) (by kernel_rfl) rfl rfl (by repeat (first | exact Upd.here _ _ | apply Upd.there)) rfl (by first | omega | (rw [msgF_len]; omega) | (rw [st3_len hh]; omega) | (rw [rouF_len, st3_len hh]; omega) | (rw [colF_len, rouF_len, st3_len hh]; omega) | (rw [diaF_len, colF_len, rouF_len, st3_len hh]; omega) | (rw [colF_len, rouF_len, st3_len hh]) | (rw [diaF_len, colF_len, rouF_len, st3_len hh]) | (simp only [List.length_append, List.length_take, List.length_replicate, List.length_drop, msgF_len, finF_len] <;> omega)) ?_
      refine WL.nil ?_
      rw [show (st2 h t).set 14 _ = st3 h t last from by rw [st3, g1]; rfl]
      exact WQ.pick (S' := [(0, _), (1, _), (2, _), (3, _), (8, _), (9, _), (10, _), (17, _), (18, _), (19, _), (20, _), (21, _), (23, _), (24, _), (26, _), (27, _), (28, _), (29, _), (30, _), (31, _), (32, _), (33, _), (34, _), (35, _), (36, _), (37, _), (38, _), (39, _)]) [0, 1, 2, 3, 8, 9, 10, 17, 18, 19, 20, 21, 23, 24, 26, 27, 28, 29, 30, 31, 32, 33, 34, 35, 36, 37, 38, 39] rfl hj
    ·
      refine W.skip ?_
      rw [show st2 h t = st3 h t last from by rw [st3, g1]; rfl]
      exact WQ.pick (S' := [(0, _), (1, _), (2, _), (3, _), (8, _), (9, _), (10, _), (17, _), (18, _), (19, _), (20, _), (21, _), (23, _), (24, _), (26, _), (27, _), (28, _), (29, _), (30, _), (31, _), (32, _), (33, _), (34, _), (35, _), (36, _), (37, _), (38, _), (39, _)]) [0, 1, 2, 3, 8, 9, 10, 17, 18, 19, 20, 21, 23, 24, 26, 27, 28, 29, 30, 31, 32, 33, 34, 35, 36, 37, 38, 39] rfl hj
  refine WQ.then ?_
  refine W.seq ?_
  refine W.seq ?_
  refine W.region ?_
  refine WL.mv rfl rfl ?_
  refine WL.nil ?_
  refine WQ.then ?_
  refine W.block ?_
  -- LOOP
  refine W.pick [0, 1, 8, 9, 44] rfl ?_
  refine W.loop (σ := Nat) (fun i => i ≤ 16) (fun i => [(0, .pointer (some ⟨bh, 0, none⟩)), (1, .pointer (some ⟨bb, bo, none⟩)), (8, .pointer (some ⟨b8, 0, none⟩)), (9, .pointer (some ⟨b9, 0, none⟩)), (44, .int .i64 (i : Nat))]) (fun i => [(b10, .cells [(8, iv .u32 firstL)] 225), (b9, .cells [(16, iv .u32 ((msgF bl).take i ++ List.replicate (16 - i) 0))] 239), (b8, .cells [(16, iv .u32 (st3 h t last))] 239), (bh, .cells [(8, iv .u32 h)] T)]) (fun i => 16 - i) 0 rfl rfl (Nat.zero_le _) ?_
  rintro i hi
  refine W.seq ?_
  refine W.region ?_
  refine WL.val rfl (V_lss rfl rfl) ?_
  refine WL.nil ?_
  refine WQ.then ?_
  refine W.seq ?_
  refine W.cond_dec rfl (fun g2 => ?_) (fun g2 => ?_)
  ·
    refine W.skip ?_
    refine WQ.then ?_
    refine W.seq ?_
    refine W.block ?_
    refine W.seq ?_
    refine W.region ?_
    refine WL.mv rfl rfl ?_
    refine WL.as rfl rfl ?_
    refine WL.nil ?_
    refine WQ.then ?_
    refine W.region ?_
    refine WL.mv rfl rfl ?_
    refine WL.mv rfl rfl ?_
    refine WL.val rfl (V_nil rfl) ?_
    refine WL.mv rfl rfl ?_
    first | refine WL.val rfl (V_mulN rfl rfl (by omega)) ?_ | refine WL.val rfl (V_mul rfl rfl) ?_
    refine WL.mv rfl rfl ?_
    first | refine WL.val rfl (V_mulN rfl rfl (by omega)) ?_ | refine WL.val rfl (V_mul rfl rfl) ?_
    first | refine WL.val rfl (V_addN rfl rfl (by omega)) ?_ | refine WL.val rfl (V_add rfl rfl) ?_
    refine WL.val rfl (V_slicePN (s := 1) (len := 64) (l := 4 * i) (h := 4 * i + 4) 4 (64 - 4 * i) (by kernel_rfl) rfl (.yes rfl (by omega)) (.yes rfl (by omega)) rfl (by omega) (by omega) (by omega)) ?_
    refine WL.pure _ rfl (by kernel_rfl) rfl (fun w hp => ofLow_calls _ _ _ ((bl.drop (4 * i)).take 4) w (by have := (hs.step hp (by intro b o e hm; injection e with e; injection e with e1 e2; subst e1; simp at hm; exact hne hm)).part (l := 4 * i) (m := 4) (by omega); simpa [iv_drop, iv_take] using this) ((hb.drop _).take _) (by omega) (by omega)) ?_
    refine WL.val rfl (V_conv (k' := .u32) rfl (by kernel_rfl) (by kernel_rfl)) ?_
    refine WL.val rfl (V_idxA1 (n := 16) (i) (by kernel_rfl) rfl rfl (by omega) (by omega)) ?_
    refine WL.storeIv (i) (by kernel_rfl) rfl rfl (by repeat (first | exact Upd.here _ _ | apply Upd.there)) rfl (by first | omega | (rw [msgF_len]; omega) | (rw [st3_len hh]; omega) | (rw [rouF_len, st3_len hh]; omega) | (rw [colF_len, rouF_len, st3_len hh]; omega) | (rw [diaF_len, colF_len, rouF_len, st3_len hh]; omega) | (rw [colF_len, rouF_len, st3_len hh]) | (rw [diaF_len, colF_len, rouF_len, st3_len hh]) | (simp only [List.length_append, List.length_take, List.length_replicate, List.length_drop, msgF_len, finF_len] <;> omega)) ?_; rw [msgStep (by omega)]
    refine WL.nil ?_
    refine WQ.block_normal ?_
    refine WQ.then ?_
    refine W.region ?_
    first | refine WL.val rfl (V_addN rfl rfl (by omega)) ?_ | refine WL.val rfl (V_add rfl rfl) ?_
    refine WL.mv rfl rfl ?_
    refine WL.nil ?_
    exact WQ.again (i + 1) [0, 1, 8, 9, 44] (by show i + 1 ≤ 16; omega) (by show 16 - (i + 1) < 16 - i; omega) rfl (by repeat (first | exact List.Sublist.refl _ | exact List.nil_sublist _ | refine List.Sublist.cons_cons _ ?_ | refine List.Sublist.cons _ ?_))
  ·
    refine W.exit ?_
    refine WQ.then_exit ?_
    refine WQ.then_exit ?_
    refine WQ.block_hit ?_
    refine WQ.then ?_
    refine W.seq ?_
    refine W.seq ?_
    refine W.region ?_
    refine WL.call [] (fun r => .pointer (some ⟨r, 0, none⟩)) (fun r => [(r, .cells [(160, iv .u8 sigAll)] 259)]) (fun _ => True) rfl (by kernel_rfl) rfl (.nil _) (fun w hp => rows_calls w) ?_; intro b60 _
    refine WL.val rfl (V_nil rfl) ?_
    refine WL.mv rfl rfl ?_
    refine WL.nil ?_
    refine WQ.then ?_
    refine W.block ?_
    -- LOOP
    rw [show (msgF bl).take i ++ List.replicate (16 - i) 0 = msgF bl from by rw [show i = 16 by omega, List.take_of_length_le (by rw [msgF_len]; omega)]; simp]
    refine W.pick [0, 8, 9, 60, 62] rfl ?_
    refine W.sub (L' := [(b60, .cells [(160, iv .u8 sigAll)] 259), (b9, .cells [(16, iv .u32 (msgF bl))] 239), (b8, .cells [(16, iv .u32 (st3 h t last))] 239), (bh, .cells [(8, iv .u32 h)] T)]) (by repeat (first | exact List.Sublist.refl _ | exact List.nil_sublist _ | refine List.Sublist.cons_cons _ ?_ | refine List.Sublist.cons _ ?_)) ?_
    refine W.loop (σ := Nat) (fun j => j ≤ 10) (fun j => [(0, .pointer (some ⟨bh, 0, none⟩)), (8, .pointer (some ⟨b8, 0, none⟩)), (9, .pointer (some ⟨b9, 0, none⟩)), (60, .pointer (some ⟨b60, 0, none⟩)), (62, .int .i64 (j : Nat))]) (fun j => [(b60, .cells [(160, iv .u8 sigAll)] 259), (b9, .cells [(16, iv .u32 (msgF bl))] 239), (b8, .cells [(16, iv .u32 (rouF (msgF bl) j (st3 h t last)))] 239), (bh, .cells [(8, iv .u32 h)] T)]) (fun j => 10 - j) 0 rfl rfl (Nat.zero_le _) ?_
    rintro j hj
    refine W.seq ?_
    refine W.region ?_
    
    refine WL.val rfl (V_lss rfl rfl) ?_
    refine WL.nil ?_
    refine WQ.then ?_
    refine W.seq ?_
    refine W.cond_dec rfl (fun g3 => ?_) (fun g3 => ?_)
    ·
      refine W.skip ?_
      refine WQ.then ?_
      refine W.seq ?_
      refine W.block ?_
      refine W.seq ?_
      refine W.region ?_
      refine WL.val rfl (V_nil rfl) ?_
      have hj10 : j < 10 := (by omega); have hsl := sig_len hj10
      refine WL.val rfl (V_indexAddrA 10 16 (by kernel_rfl) rfl rfl (by omega) (by omega)) ?_
      refine WL.val rfl (V_loadAF (ds := [(16, iv .u8 (sig j))]) 16 (by kernel_rfl) rfl (by repeat (first | exact At.head | exact AtW.at ‹_› (by simp) | apply At.tail)) (by simp [flat, iv_drop, iv_take, sig, Nat.mul_comm]) (by first | (simp [flat, iv_len, sigAll]; done) | (simp [flat, iv_len, sigAll]; omega))) ?_
      refine WL.new rfl (E_alloc (zs := [(16, List.replicate 16 (.int .u8 0))]) ⟨by kernel_rfl, by repeat (first | exact Fit.nil | refine Fit.mk (by first | rfl | (simp; done) | (simp [iv_len]; done) | simp [iv_len, *]) ?_)⟩) ?_; intro b13
      refine WL.storeA 16 (by kernel_rfl) rfl rfl (by first | rfl | (simp [flat]; done) | (simp [flat, iv_len]; done) | simp [flat, iv_len, *]) (by repeat (first | exact Fit.nil | refine Fit.mk (by first | rfl | (simp; done) | (simp [iv_len]; done) | simp [iv_len, *]) ?_)) (by first | (simp [flat, one]; done) | simp [flat, iv, one]) (by repeat (first | exact Upd.here _ _ | apply Upd.there)) (by rfl) ?_
      refine WL.nil ?_
      refine WQ.then ?_
      refine W.seq ?_
      refine W.seq ?_
      refine W.region ?_
      refine WL.mv rfl rfl ?_
      refine WL.nil ?_
      refine WQ.then ?_
      refine W.block ?_
      -- LOOP
      refine W.pick [0, 8, 9, 13, 60, 62, 67] rfl ?_
      refine W.loop (σ := Nat) (fun k => k ≤ 4) (fun k => [(0, .pointer (some ⟨bh, 0, none⟩)), (8, .pointer (some ⟨b8, 0, none⟩)), (9, .pointer (some ⟨b9, 0, none⟩)), (13, .pointer (some ⟨b13, 0, none⟩)), (60, .pointer (some ⟨b60, 0, none⟩)), (62, .int .i64 (j : Nat)), (67, .int .i64 (k : Nat))]) (fun k => [(b13, .cells [(16, iv .u8 (sig j))] 243), (b60, .cells [(160, iv .u8 sigAll)] 259), (b9, .cells [(16, iv .u32 (msgF bl))] 239), (b8, .cells [(16, iv .u32 (colF (msgF bl) (sig j) k (rouF (msgF bl) j (st3 h t last))))] 239), (bh, .cells [(8, iv .u32 h)] T)]) (fun k => 4 - k) 0 rfl rfl (Nat.zero_le _) ?_
      rintro k hk
      refine W.seq ?_
      refine W.region ?_
      refine WL.val rfl (V_lss rfl rfl) ?_
      refine WL.nil ?_
      refine WQ.then ?_
      refine W.seq ?_
      refine W.cond_dec rfl (fun g4 => ?_) (fun g4 => ?_)
      ·
        refine W.skip ?_
        refine WQ.then ?_
        refine W.seq ?_
        refine W.block ?_
        refine W.seq ?_
        refine W.region ?_
        refine WL.mv rfl rfl ?_
        refine WL.as rfl rfl ?_
        refine WL.nil ?_
        refine WQ.then ?_
        refine W.drawn (.q 0 (.q 1 (.q 2 (.q 3 (.q 4 (.q 5 (.q 6 (.q 7 (.q 8 (.q 9 (.q 10 (.q 11 (.q 12 (.q 13 (.q 14 (.q 15 (.q 16 (.q 17 (.q 18 (.q 19 (.q 20 (.q 21 (.q 22 (.q 23 (.l 24 (.done)))))))))))))))))))))))))) [(b13, _), (b9, _)] (by kernel_rfl) (fun _ a d _ _ h => by cases d <;> exact h) (by kernel_rfl) (by repeat (first | exact List.Sublist.refl _ | exact List.nil_sublist _ | refine List.Sublist.cons_cons _ ?_ | refine List.Sublist.cons _ ?_)) ?_
        have hg1 := sig_bd j (2 * k); have hg2 := sig_bd j (2 * k + 1); have hsl := sig_len hj10
        refine WD.q rfl rfl (V_move rfl) ?_
        refine WD.q rfl rfl (V_idxA1 (n := 16) (k) (by kernel_rfl) rfl rfl (by omega) (by omega)) ?_
        refine WD.q rfl rfl (V_move rfl) ?_
        first | refine WD.q rfl rfl (V_addN rfl rfl (by omega)) ?_ | refine WD.q rfl rfl (V_add rfl rfl) ?_
        have hg1 := sig_bd j (2 * k); have hg2 := sig_bd j (2 * k + 1); have hsl := sig_len hj10
        refine WD.q rfl rfl (V_idxA1 (n := 16) (4 + k) (by kernel_rfl) rfl rfl (by omega) (by omega)) ?_
        refine WD.q rfl rfl (V_move rfl) ?_
        first | refine WD.q rfl rfl (V_addN rfl rfl (by omega)) ?_ | refine WD.q rfl rfl (V_add rfl rfl) ?_
        refine WD.q rfl rfl (V_idxA1 (n := 16) (8 + k) (by kernel_rfl) rfl rfl (by omega) (by omega)) ?_
        refine WD.q rfl rfl (V_move rfl) ?_
        first | refine WD.q rfl rfl (V_addN rfl rfl (by omega)) ?_ | refine WD.q rfl rfl (V_add rfl rfl) ?_
        refine WD.q rfl rfl (V_idxA1 (n := 16) (12 + k) (by kernel_rfl) rfl rfl (by omega) (by omega)) ?_
        refine WD.q rfl rfl (V_move rfl) ?_
        first | refine WD.q rfl rfl (V_mulN rfl rfl (by omega)) ?_ | refine WD.q rfl rfl (V_mul rfl rfl) ?_
        refine WD.q rfl rfl (V_idxA1 (n := 16) (2 * k) (by kernel_rfl) rfl rfl (by omega) (by omega)) ?_
        refine WD.q rfl rfl (V_loadIv (2 * k) (by kernel_rfl) rfl (by repeat (first | exact At.head | exact AtW.at ‹_› (by simp) | apply At.tail)) rfl (by first | omega | (rw [msgF_len]; omega) | (rw [st3_len hh]; omega) | (rw [rouF_len, st3_len hh]; omega) | (rw [colF_len, rouF_len, st3_len hh]; omega) | (rw [diaF_len, colF_len, rouF_len, st3_len hh]; omega) | (rw [colF_len, rouF_len, st3_len hh]) | (rw [diaF_len, colF_len, rouF_len, st3_len hh]) | (simp only [List.length_append, List.length_take, List.length_replicate, List.length_drop, msgF_len, finF_len] <;> omega))) ?_
        refine WD.q rfl rfl (V_idxA1 (n := 16) (((sig j).getD (2 * k) 0).toNat) (by kernel_rfl) rfl rfl (by omega) (by omega)) ?_
        refine WD.q rfl rfl (V_loadIv (((sig j).getD (2 * k) 0).toNat) (by kernel_rfl) rfl (by repeat (first | exact At.head | exact AtW.at ‹_› (by simp) | apply At.tail)) rfl (by first | omega | (rw [msgF_len]; omega) | (rw [st3_len hh]; omega) | (rw [rouF_len, st3_len hh]; omega) | (rw [colF_len, rouF_len, st3_len hh]; omega) | (rw [diaF_len, colF_len, rouF_len, st3_len hh]; omega) | (rw [colF_len, rouF_len, st3_len hh]) | (rw [diaF_len, colF_len, rouF_len, st3_len hh]) | (simp only [List.length_append, List.length_take, List.length_replicate, List.length_drop, msgF_len, finF_len] <;> omega))) ?_
        refine WD.q rfl rfl (V_move rfl) ?_
        first | refine WD.q rfl rfl (V_mulN rfl rfl (by omega)) ?_ | refine WD.q rfl rfl (V_mul rfl rfl) ?_
        first | refine WD.q rfl rfl (V_addN rfl rfl (by omega)) ?_ | refine WD.q rfl rfl (V_add rfl rfl) ?_
        refine WD.q rfl rfl (V_idxA1 (n := 16) (2 * k + 1) (by kernel_rfl) rfl rfl (by omega) (by omega)) ?_
        refine WD.q rfl rfl (V_loadIv (2 * k + 1) (by kernel_rfl) rfl (by repeat (first | exact At.head | exact AtW.at ‹_› (by simp) | apply At.tail)) rfl (by first | omega | (rw [msgF_len]; omega) | (rw [st3_len hh]; omega) | (rw [rouF_len, st3_len hh]; omega) | (rw [colF_len, rouF_len, st3_len hh]; omega) | (rw [diaF_len, colF_len, rouF_len, st3_len hh]; omega) | (rw [colF_len, rouF_len, st3_len hh]) | (rw [diaF_len, colF_len, rouF_len, st3_len hh]) | (simp only [List.length_append, List.length_take, List.length_replicate, List.length_drop, msgF_len, finF_len] <;> omega))) ?_
        refine WD.q rfl rfl (V_idxA1 (n := 16) (((sig j).getD (2 * k + 1) 0).toNat) (by kernel_rfl) rfl rfl (by omega) (by omega)) ?_
        refine WD.q rfl rfl (V_loadIv (((sig j).getD (2 * k + 1) 0).toNat) (by kernel_rfl) rfl (by repeat (first | exact At.head | exact AtW.at ‹_› (by simp) | apply At.tail)) rfl (by first | omega | (rw [msgF_len]; omega) | (rw [st3_len hh]; omega) | (rw [rouF_len, st3_len hh]; omega) | (rw [colF_len, rouF_len, st3_len hh]; omega) | (rw [diaF_len, colF_len, rouF_len, st3_len hh]; omega) | (rw [colF_len, rouF_len, st3_len hh]) | (rw [diaF_len, colF_len, rouF_len, st3_len hh]) | (simp only [List.length_append, List.length_take, List.length_replicate, List.length_drop, msgF_len, finF_len] <;> omega))) ?_
        refine WD.l ?_
        refine WO.cal rfl rfl (by repeat (first | exact List.Sublist.refl _ | exact List.nil_sublist _ | refine List.Sublist.cons_cons _ ?_ | refine List.Sublist.cons _ ?_)) (C_mod _ (by kernel_rfl) rfl (by repeat (first | exact Upd.here _ _ | apply Upd.there)) (fun w hp => mix_calls b8 k (4 + k) (8 + k) (12 + k) (colF (msgF bl) (sig j) k (rouF (msgF bl) j (st3 h t last))) _ _ 239 w (hp.held (b8, .cells [(16, iv .u32 (colF (msgF bl) (sig j) k (rouF (msgF bl) j (st3 h t last))))] 239) (by simp)) (by first | omega | (rw [msgF_len]; omega) | (rw [st3_len hh]; omega) | (rw [rouF_len, st3_len hh]; omega) | (rw [colF_len, rouF_len, st3_len hh]; omega) | (rw [diaF_len, colF_len, rouF_len, st3_len hh]; omega) | (rw [colF_len, rouF_len, st3_len hh]) | (rw [diaF_len, colF_len, rouF_len, st3_len hh]) | (simp only [List.length_append, List.length_take, List.length_replicate, List.length_drop, msgF_len, finF_len] <;> omega)) (by first | omega | (rw [msgF_len]; omega) | (rw [st3_len hh]; omega) | (rw [rouF_len, st3_len hh]; omega) | (rw [colF_len, rouF_len, st3_len hh]; omega) | (rw [diaF_len, colF_len, rouF_len, st3_len hh]; omega) | (rw [colF_len, rouF_len, st3_len hh]) | (rw [diaF_len, colF_len, rouF_len, st3_len hh]) | (simp only [List.length_append, List.length_take, List.length_replicate, List.length_drop, msgF_len, finF_len] <;> omega)) (by first | omega | (rw [msgF_len]; omega) | (rw [st3_len hh]; omega) | (rw [rouF_len, st3_len hh]; omega) | (rw [colF_len, rouF_len, st3_len hh]; omega) | (rw [diaF_len, colF_len, rouF_len, st3_len hh]; omega) | (rw [colF_len, rouF_len, st3_len hh]) | (rw [diaF_len, colF_len, rouF_len, st3_len hh]) | (simp only [List.length_append, List.length_take, List.length_replicate, List.length_drop, msgF_len, finF_len] <;> omega)) (by first | omega | (rw [msgF_len]; omega) | (rw [st3_len hh]; omega) | (rw [rouF_len, st3_len hh]; omega) | (rw [colF_len, rouF_len, st3_len hh]; omega) | (rw [diaF_len, colF_len, rouF_len, st3_len hh]; omega) | (rw [colF_len, rouF_len, st3_len hh]) | (rw [diaF_len, colF_len, rouF_len, st3_len hh]) | (simp only [List.length_append, List.length_take, List.length_replicate, List.length_drop, msgF_len, finF_len] <;> omega)))) ?_; rintro _ _ ⟨rfl, rfl⟩; refine ⟨by simp, ?_⟩
        refine WD.done ?_
        refine WQ.block_normal ?_
        refine WQ.then ?_
        refine W.region ?_
        first | refine WL.val rfl (V_addN rfl rfl (by omega)) ?_ | refine WL.val rfl (V_add rfl rfl) ?_
        refine WL.mv rfl rfl ?_
        refine WL.nil ?_
        exact WQ.again (k + 1) [0, 8, 9, 13, 60, 62, 67] (by show k + 1 ≤ 4; omega) (by show 4 - (k + 1) < 4 - k; omega) rfl (by repeat (first | exact List.Sublist.refl _ | exact List.nil_sublist _ | refine List.Sublist.cons_cons _ ?_ | refine List.Sublist.cons _ ?_))
      ·
        refine W.exit ?_
        refine WQ.then_exit ?_
        refine WQ.then_exit ?_
        refine WQ.block_hit ?_
        refine WQ.then ?_
        refine W.seq ?_
        refine W.region ?_
        refine WL.mv rfl rfl ?_
        refine WL.nil ?_
        refine WQ.then ?_
        refine W.block ?_
        -- LOOP
        rw [show k = 4 by omega]
        refine W.pick [0, 8, 9, 13, 60, 62, 96] rfl ?_
        refine W.loop (σ := Nat) (fun k => k ≤ 4) (fun k => [(0, .pointer (some ⟨bh, 0, none⟩)), (8, .pointer (some ⟨b8, 0, none⟩)), (9, .pointer (some ⟨b9, 0, none⟩)), (13, .pointer (some ⟨b13, 0, none⟩)), (60, .pointer (some ⟨b60, 0, none⟩)), (62, .int .i64 (j : Nat)), (96, .int .i64 (k : Nat))]) (fun k => [(b13, .cells [(16, iv .u8 (sig j))] 243), (b60, .cells [(160, iv .u8 sigAll)] 259), (b9, .cells [(16, iv .u32 (msgF bl))] 239), (b8, .cells [(16, iv .u32 (diaF (msgF bl) (sig j) k (colF (msgF bl) (sig j) 4 (rouF (msgF bl) j (st3 h t last)))))] 239), (bh, .cells [(8, iv .u32 h)] T)]) (fun k => 4 - k) 0 rfl rfl (Nat.zero_le _) ?_
        rintro k hk
        refine W.seq ?_
        refine W.region ?_
        refine WL.val rfl (V_lss rfl rfl) ?_
        refine WL.nil ?_
        refine WQ.then ?_
        refine W.seq ?_
        refine W.cond_dec rfl (fun g5 => ?_) (fun g5 => ?_)
        ·
          refine W.skip ?_
          refine WQ.then ?_
          refine W.seq ?_
          refine W.block ?_
          refine W.seq ?_
          refine W.region ?_
          refine WL.mv rfl rfl ?_
          refine WL.as rfl rfl ?_
          refine WL.nil ?_
          refine WQ.then ?_
          refine W.drawn (.q 0 (.q 1 (.q 2 (.q 3 (.q 4 (.q 5 (.q 6 (.q 7 (.q 8 (.q 9 (.q 10 (.q 11 (.q 12 (.q 13 (.q 14 (.q 15 (.q 16 (.q 17 (.q 18 (.q 19 (.q 20 (.q 21 (.q 22 (.q 23 (.q 24 (.q 25 (.q 26 (.q 27 (.q 28 (.q 29 (.q 30 (.l 31 (.done))))))))))))))))))))))))))))))))) [(b13, _), (b9, _)] (by kernel_rfl) (fun _ a d _ _ h => by cases d <;> exact h) (by kernel_rfl) (by repeat (first | exact List.Sublist.refl _ | exact List.nil_sublist _ | refine List.Sublist.cons_cons _ ?_ | refine List.Sublist.cons _ ?_)) ?_
          have hg1 := sig_bd j (2 * k + 8); have hg2 := sig_bd j (2 * k + 9); have hsl := sig_len hj10
          refine WD.q rfl rfl (V_move rfl) ?_
          refine WD.q rfl rfl (V_idxA1 (n := 16) (k) (by kernel_rfl) rfl rfl (by omega) (by omega)) ?_
          refine WD.q rfl rfl (V_move rfl) ?_
          first | refine WD.q rfl rfl (V_addN rfl rfl (by omega)) ?_ | refine WD.q rfl rfl (V_add rfl rfl) ?_
          first | refine WD.q rfl rfl (V_remN rfl rfl (by omega) (by omega)) ?_ | refine WD.q rfl rfl (V_rem rfl rfl (by omega)) ?_
          first | refine WD.q rfl rfl (V_addN rfl rfl (by omega)) ?_ | refine WD.q rfl rfl (V_add rfl rfl) ?_
          refine WD.q rfl rfl (V_idxA1 (n := 16) (4 + (k + 1) % 4) (by kernel_rfl) rfl rfl (by omega) (by omega)) ?_
          refine WD.q rfl rfl (V_move rfl) ?_
          first | refine WD.q rfl rfl (V_addN rfl rfl (by omega)) ?_ | refine WD.q rfl rfl (V_add rfl rfl) ?_
          first | refine WD.q rfl rfl (V_remN rfl rfl (by omega) (by omega)) ?_ | refine WD.q rfl rfl (V_rem rfl rfl (by omega)) ?_
          first | refine WD.q rfl rfl (V_addN rfl rfl (by omega)) ?_ | refine WD.q rfl rfl (V_add rfl rfl) ?_
          refine WD.q rfl rfl (V_idxA1 (n := 16) (8 + (k + 2) % 4) (by kernel_rfl) rfl rfl (by omega) (by omega)) ?_
          refine WD.q rfl rfl (V_move rfl) ?_
          first | refine WD.q rfl rfl (V_addN rfl rfl (by omega)) ?_ | refine WD.q rfl rfl (V_add rfl rfl) ?_
          first | refine WD.q rfl rfl (V_remN rfl rfl (by omega) (by omega)) ?_ | refine WD.q rfl rfl (V_rem rfl rfl (by omega)) ?_
          first | refine WD.q rfl rfl (V_addN rfl rfl (by omega)) ?_ | refine WD.q rfl rfl (V_add rfl rfl) ?_
          refine WD.q rfl rfl (V_idxA1 (n := 16) (12 + (k + 3) % 4) (by kernel_rfl) rfl rfl (by omega) (by omega)) ?_
          refine WD.q rfl rfl (V_move rfl) ?_
          first | refine WD.q rfl rfl (V_mulN rfl rfl (by omega)) ?_ | refine WD.q rfl rfl (V_mul rfl rfl) ?_
          first | refine WD.q rfl rfl (V_addN rfl rfl (by omega)) ?_ | refine WD.q rfl rfl (V_add rfl rfl) ?_
          refine WD.q rfl rfl (V_idxA1 (n := 16) (2 * k + 8) (by kernel_rfl) rfl rfl (by omega) (by omega)) ?_
          refine WD.q rfl rfl (V_loadIv (2 * k + 8) (by kernel_rfl) rfl (by repeat (first | exact At.head | exact AtW.at ‹_› (by simp) | apply At.tail)) rfl (by first | omega | (rw [msgF_len]; omega) | (rw [st3_len hh]; omega) | (rw [rouF_len, st3_len hh]; omega) | (rw [colF_len, rouF_len, st3_len hh]; omega) | (rw [diaF_len, colF_len, rouF_len, st3_len hh]; omega) | (rw [colF_len, rouF_len, st3_len hh]) | (rw [diaF_len, colF_len, rouF_len, st3_len hh]) | (simp only [List.length_append, List.length_take, List.length_replicate, List.length_drop, msgF_len, finF_len] <;> omega))) ?_
          refine WD.q rfl rfl (V_idxA1 (n := 16) (((sig j).getD (2 * k + 8) 0).toNat) (by kernel_rfl) rfl rfl (by omega) (by omega)) ?_
          refine WD.q rfl rfl (V_loadIv (((sig j).getD (2 * k + 8) 0).toNat) (by kernel_rfl) rfl (by repeat (first | exact At.head | exact AtW.at ‹_› (by simp) | apply At.tail)) rfl (by first | omega | (rw [msgF_len]; omega) | (rw [st3_len hh]; omega) | (rw [rouF_len, st3_len hh]; omega) | (rw [colF_len, rouF_len, st3_len hh]; omega) | (rw [diaF_len, colF_len, rouF_len, st3_len hh]; omega) | (rw [colF_len, rouF_len, st3_len hh]) | (rw [diaF_len, colF_len, rouF_len, st3_len hh]) | (simp only [List.length_append, List.length_take, List.length_replicate, List.length_drop, msgF_len, finF_len] <;> omega))) ?_
          refine WD.q rfl rfl (V_move rfl) ?_
          first | refine WD.q rfl rfl (V_mulN rfl rfl (by omega)) ?_ | refine WD.q rfl rfl (V_mul rfl rfl) ?_
          first | refine WD.q rfl rfl (V_addN rfl rfl (by omega)) ?_ | refine WD.q rfl rfl (V_add rfl rfl) ?_
          refine WD.q rfl rfl (V_idxA1 (n := 16) (2 * k + 9) (by kernel_rfl) rfl rfl (by omega) (by omega)) ?_
          refine WD.q rfl rfl (V_loadIv (2 * k + 9) (by kernel_rfl) rfl (by repeat (first | exact At.head | exact AtW.at ‹_› (by simp) | apply At.tail)) rfl (by first | omega | (rw [msgF_len]; omega) | (rw [st3_len hh]; omega) | (rw [rouF_len, st3_len hh]; omega) | (rw [colF_len, rouF_len, st3_len hh]; omega) | (rw [diaF_len, colF_len, rouF_len, st3_len hh]; omega) | (rw [colF_len, rouF_len, st3_len hh]) | (rw [diaF_len, colF_len, rouF_len, st3_len hh]) | (simp only [List.length_append, List.length_take, List.length_replicate, List.length_drop, msgF_len, finF_len] <;> omega))) ?_
          refine WD.q rfl rfl (V_idxA1 (n := 16) (((sig j).getD (2 * k + 9) 0).toNat) (by kernel_rfl) rfl rfl (by omega) (by omega)) ?_
          refine WD.q rfl rfl (V_loadIv (((sig j).getD (2 * k + 9) 0).toNat) (by kernel_rfl) rfl (by repeat (first | exact At.head | exact AtW.at ‹_› (by simp) | apply At.tail)) rfl (by first | omega | (rw [msgF_len]; omega) | (rw [st3_len hh]; omega) | (rw [rouF_len, st3_len hh]; omega) | (rw [colF_len, rouF_len, st3_len hh]; omega) | (rw [diaF_len, colF_len, rouF_len, st3_len hh]; omega) | (rw [colF_len, rouF_len, st3_len hh]) | (rw [diaF_len, colF_len, rouF_len, st3_len hh]) | (simp only [List.length_append, List.length_take, List.length_replicate, List.length_drop, msgF_len, finF_len] <;> omega))) ?_
          refine WD.l ?_
          refine WO.cal rfl rfl (by repeat (first | exact List.Sublist.refl _ | exact List.nil_sublist _ | refine List.Sublist.cons_cons _ ?_ | refine List.Sublist.cons _ ?_)) (C_mod _ (by kernel_rfl) rfl (by repeat (first | exact Upd.here _ _ | apply Upd.there)) (fun w hp => mix_calls b8 k (4 + (k + 1) % 4) (8 + (k + 2) % 4) (12 + (k + 3) % 4) (diaF (msgF bl) (sig j) k (colF (msgF bl) (sig j) 4 (rouF (msgF bl) j (st3 h t last)))) _ _ 239 w (hp.held (b8, .cells [(16, iv .u32 (diaF (msgF bl) (sig j) k (colF (msgF bl) (sig j) 4 (rouF (msgF bl) j (st3 h t last)))))] 239) (by simp)) (by first | omega | (rw [msgF_len]; omega) | (rw [st3_len hh]; omega) | (rw [rouF_len, st3_len hh]; omega) | (rw [colF_len, rouF_len, st3_len hh]; omega) | (rw [diaF_len, colF_len, rouF_len, st3_len hh]; omega) | (rw [colF_len, rouF_len, st3_len hh]) | (rw [diaF_len, colF_len, rouF_len, st3_len hh]) | (simp only [List.length_append, List.length_take, List.length_replicate, List.length_drop, msgF_len, finF_len] <;> omega)) (by first | omega | (rw [msgF_len]; omega) | (rw [st3_len hh]; omega) | (rw [rouF_len, st3_len hh]; omega) | (rw [colF_len, rouF_len, st3_len hh]; omega) | (rw [diaF_len, colF_len, rouF_len, st3_len hh]; omega) | (rw [colF_len, rouF_len, st3_len hh]) | (rw [diaF_len, colF_len, rouF_len, st3_len hh]) | (simp only [List.length_append, List.length_take, List.length_replicate, List.length_drop, msgF_len, finF_len] <;> omega)) (by first | omega | (rw [msgF_len]; omega) | (rw [st3_len hh]; omega) | (rw [rouF_len, st3_len hh]; omega) | (rw [colF_len, rouF_len, st3_len hh]; omega) | (rw [diaF_len, colF_len, rouF_len, st3_len hh]; omega) | (rw [colF_len, rouF_len, st3_len hh]) | (rw [diaF_len, colF_len, rouF_len, st3_len hh]) | (simp only [List.length_append, List.length_take, List.length_replicate, List.length_drop, msgF_len, finF_len] <;> omega)) (by first | omega | (rw [msgF_len]; omega) | (rw [st3_len hh]; omega) | (rw [rouF_len, st3_len hh]; omega) | (rw [colF_len, rouF_len, st3_len hh]; omega) | (rw [diaF_len, colF_len, rouF_len, st3_len hh]; omega) | (rw [colF_len, rouF_len, st3_len hh]) | (rw [diaF_len, colF_len, rouF_len, st3_len hh]) | (simp only [List.length_append, List.length_take, List.length_replicate, List.length_drop, msgF_len, finF_len] <;> omega)))) ?_; rintro _ _ ⟨rfl, rfl⟩; refine ⟨by simp, ?_⟩
          refine WD.done ?_
          refine WQ.block_normal ?_
          refine WQ.then ?_
          refine W.region ?_
          first | refine WL.val rfl (V_addN rfl rfl (by omega)) ?_ | refine WL.val rfl (V_add rfl rfl) ?_
          refine WL.mv rfl rfl ?_
          refine WL.nil ?_
          exact WQ.again (k + 1) [0, 8, 9, 13, 60, 62, 96] (by show k + 1 ≤ 4; omega) (by show 4 - (k + 1) < 4 - k; omega) rfl (by repeat (first | exact List.Sublist.refl _ | exact List.nil_sublist _ | refine List.Sublist.cons_cons _ ?_ | refine List.Sublist.cons _ ?_))
        ·
          refine W.exit ?_
          refine WQ.then_exit ?_
          refine WQ.then_exit ?_
          refine WQ.block_hit ?_
          refine WQ.block_normal ?_
          refine WQ.then ?_
          refine W.region ?_
          first | refine WL.val rfl (V_addN rfl rfl (by omega)) ?_ | refine WL.val rfl (V_add rfl rfl) ?_
          refine WL.mv rfl rfl ?_
          refine WL.nil ?_
          rw [show diaF (msgF bl) (sig j) k (colF (msgF bl) (sig j) 4 (rouF (msgF bl) j (st3 h t last))) = rouF (msgF bl) (j + 1) (st3 h t last) from by rw [show k = 4 by omega]; rfl]
          exact WQ.again (j + 1) [0, 8, 9, 60, 62] (by show j + 1 ≤ 10; omega) (by show 10 - (j + 1) < 10 - j; omega) rfl (by repeat (first | exact List.Sublist.refl _ | exact List.nil_sublist _ | refine List.Sublist.cons_cons _ ?_ | refine List.Sublist.cons _ ?_))
    ·
      refine W.exit ?_
      refine WQ.then_exit ?_
      refine WQ.then_exit ?_
      refine WQ.block_hit ?_
      refine WQ.then ?_
      refine W.seq ?_
      refine W.region ?_
      refine WL.mv rfl rfl ?_
      refine WL.nil ?_
      refine WQ.then ?_
      refine W.block ?_
      -- LOOP
      rw [show j = 10 by omega]
      refine W.pick [0, 8, 133] rfl ?_
      refine W.sub (L' := [(b8, .cells [(16, iv .u32 (rouF (msgF bl) 10 (st3 h t last)))] 239), (bh, .cells [(8, iv .u32 h)] T)]) (by repeat (first | exact List.Sublist.refl _ | exact List.nil_sublist _ | refine List.Sublist.cons_cons _ ?_ | refine List.Sublist.cons _ ?_)) ?_
      refine W.loop (σ := Nat) (fun k => k ≤ 8) (fun k => [(0, .pointer (some ⟨bh, 0, none⟩)), (8, .pointer (some ⟨b8, 0, none⟩)), (133, .int .i64 (k : Nat))]) (fun k => [(b8, .cells [(16, iv .u32 (rouF (msgF bl) 10 (st3 h t last)))] 239), (bh, .cells [(8, iv .u32 ((finF h (rouF (msgF bl) 10 (st3 h t last))).take k ++ h.drop k))] T)]) (fun k => 8 - k) 0 rfl rfl (Nat.zero_le _) ?_
      rintro k hk
      refine W.seq ?_
      refine W.region ?_
      refine WL.val rfl (V_lss rfl rfl) ?_
      refine WL.nil ?_
      refine WQ.then ?_
      refine W.seq ?_
      refine W.cond_dec rfl (fun g6 => ?_) (fun g6 => ?_)
      ·
        refine W.skip ?_
        refine WQ.then ?_
        refine W.seq ?_
        refine W.block ?_
        refine W.seq ?_
        refine W.region ?_
        refine WL.mv rfl rfl ?_
        refine WL.as rfl rfl ?_
        refine WL.nil ?_
        refine WQ.then ?_
        refine W.drawn (.q 0 (.q 1 (.q 2 (.q 3 (.q 5 (.q 6 (.q 7 (.q 8 (.q 9 (.q 10 (.q 11 (.q 12 (.q 14 (.l 4 (.q 13 (.q 15 (.l 16 (.done)))))))))))))))))) [(b8, _)] (by kernel_rfl) (fun _ a d _ _ h => by cases d <;> exact h) (by kernel_rfl) (by repeat (first | exact List.Sublist.refl _ | exact List.nil_sublist _ | refine List.Sublist.cons_cons _ ?_ | refine List.Sublist.cons _ ?_)) ?_
        refine WD.q rfl rfl (V_move rfl) ?_
        refine WD.q rfl rfl (V_move rfl) ?_
        refine WD.q rfl rfl (V_nil rfl) ?_
        refine WD.q rfl rfl (V_idxA1 (n := 8) (k) (by kernel_rfl) rfl rfl (by omega) (by omega)) ?_
        refine WD.q rfl rfl (V_move rfl) ?_
        refine WD.q rfl rfl (V_idxA1 (n := 16) (k) (by kernel_rfl) rfl rfl (by omega) (by omega)) ?_
        refine WD.q rfl rfl (V_loadIv (k) (by kernel_rfl) rfl (by repeat (first | exact At.head | exact AtW.at ‹_› (by simp) | apply At.tail)) rfl (by first | omega | (rw [msgF_len]; omega) | (rw [st3_len hh]; omega) | (rw [rouF_len, st3_len hh]; omega) | (rw [colF_len, rouF_len, st3_len hh]; omega) | (rw [diaF_len, colF_len, rouF_len, st3_len hh]; omega) | (rw [colF_len, rouF_len, st3_len hh]) | (rw [diaF_len, colF_len, rouF_len, st3_len hh]) | (simp only [List.length_append, List.length_take, List.length_replicate, List.length_drop, msgF_len, finF_len] <;> omega))) ?_
        refine WD.q rfl rfl (V_move rfl) ?_
        first | refine WD.q rfl rfl (V_addN rfl rfl (by omega)) ?_ | refine WD.q rfl rfl (V_add rfl rfl) ?_
        refine WD.q rfl rfl (V_idxA1 (n := 16) (k + 8) (by kernel_rfl) rfl rfl (by omega) (by omega)) ?_
        refine WD.q rfl rfl (V_loadIv (k + 8) (by kernel_rfl) rfl (by repeat (first | exact At.head | exact AtW.at ‹_› (by simp) | apply At.tail)) rfl (by first | omega | (rw [msgF_len]; omega) | (rw [st3_len hh]; omega) | (rw [rouF_len, st3_len hh]; omega) | (rw [colF_len, rouF_len, st3_len hh]; omega) | (rw [diaF_len, colF_len, rouF_len, st3_len hh]; omega) | (rw [colF_len, rouF_len, st3_len hh]) | (rw [diaF_len, colF_len, rouF_len, st3_len hh]) | (simp only [List.length_append, List.length_take, List.length_replicate, List.length_drop, msgF_len, finF_len] <;> omega))) ?_
        refine WD.q rfl rfl (V_xor rfl rfl) ?_
        refine WD.q rfl rfl (V_nil rfl) ?_
        refine WD.l ?_
        refine WO.val rfl rfl (by repeat (first | exact List.Sublist.refl _ | exact List.nil_sublist _ | refine List.Sublist.cons_cons _ ?_ | refine List.Sublist.cons _ ?_)) (V_loadIv (k) (by kernel_rfl) rfl (by repeat (first | exact At.head | exact AtW.at ‹_› (by simp) | apply At.tail)) rfl (by first | omega | (rw [msgF_len]; omega) | (rw [st3_len hh]; omega) | (rw [rouF_len, st3_len hh]; omega) | (rw [colF_len, rouF_len, st3_len hh]; omega) | (rw [diaF_len, colF_len, rouF_len, st3_len hh]; omega) | (rw [colF_len, rouF_len, st3_len hh]) | (rw [diaF_len, colF_len, rouF_len, st3_len hh]) | (simp only [List.length_append, List.length_take, List.length_replicate, List.length_drop, msgF_len, finF_len] <;> omega))) ?_
        refine WD.q rfl rfl (V_xor rfl rfl) ?_
        refine WD.q rfl rfl (V_idxA1 (n := 8) (k) (by kernel_rfl) rfl rfl (by omega) (by omega)) ?_
        refine WD.l ?_
        refine WO.eff rfl rfl (by repeat (first | exact List.Sublist.refl _ | exact List.nil_sublist _ | refine List.Sublist.cons_cons _ ?_ | refine List.Sublist.cons _ ?_)) (E_storeIv k (by kernel_rfl) rfl rfl (by repeat (first | exact Upd.here _ _ | apply Upd.there)) rfl (by first | omega | (rw [msgF_len]; omega) | (rw [st3_len hh]; omega) | (rw [rouF_len, st3_len hh]; omega) | (rw [colF_len, rouF_len, st3_len hh]; omega) | (rw [diaF_len, colF_len, rouF_len, st3_len hh]; omega) | (rw [colF_len, rouF_len, st3_len hh]) | (rw [diaF_len, colF_len, rouF_len, st3_len hh]) | (simp only [List.length_append, List.length_take, List.length_replicate, List.length_drop, msgF_len, finF_len] <;> omega))) ?_; rintro _ _ ⟨rfl, rfl⟩; refine ⟨by simp, ?_⟩; rw [finStep (by omega) hh]
        refine WD.done ?_
        refine WQ.block_normal ?_
        refine WQ.then ?_
        refine W.region ?_
        first | refine WL.val rfl (V_addN rfl rfl (by omega)) ?_ | refine WL.val rfl (V_add rfl rfl) ?_
        refine WL.mv rfl rfl ?_
        refine WL.nil ?_
        exact WQ.again (k + 1) [0, 8, 133] (by show k + 1 ≤ 8; omega) (by show 8 - (k + 1) < 8 - k; omega) rfl (by repeat (first | exact List.Sublist.refl _ | exact List.nil_sublist _ | refine List.Sublist.cons_cons _ ?_ | refine List.Sublist.cons _ ?_))
      ·
        refine W.exit ?_
        refine WQ.then_exit ?_
        refine WQ.then_exit ?_
        refine WQ.block_hit ?_
        refine WQ.ret0 (.inr rfl) Tryz.results126 ?_
        intro w' hp; refine ⟨rfl, ?_⟩; rw [show k = 8 by omega, List.take_of_length_le (by rw [finF_len]; omega), List.drop_eq_nil_of_le (by omega), List.append_nil] at hp; exact hp.sub (by repeat (first | exact List.Sublist.refl _ | exact List.nil_sublist _ | refine List.Sublist.cons_cons _ ?_ | refine List.Sublist.cons _ ?_))

end Go.Proofs.YtmeckbjinmgbbaaGreat