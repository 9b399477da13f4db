/- The document's relay: its accounts. -/
import Derived.Test.YtmeckbjinmgbbaaRBox
import Derived.Test.YtmeckbjinmgbbaaSend3
set_option linter.unusedVariables false
set_option linter.unusedSimpArgs false

namespace Go.Proofs.Ytmeckbjinmgbbaa
open Go.X
def rlS (root : List Int) (ticks : Int) (ps : List (Option Nat)) : List Seg := [(32, iv .u8 root), (1, [.int .i64 ticks]), (8, ps.map optV)]
theorem rlS_set {root : List Int} {ticks : Int} {k : Nat} {ps : List (Option Nat)} {q : Option Nat} (hl : root.length = 32) : flat (rlS root ticks (ps.set k q)) = (flat (rlS root ticks ps)).set (33 + k) (optV q) := by
  unfold rlS flat
  simp only [List.flatMap_cons, List.flatMap_nil, List.append_nil]
  rw [List.set_append_right _ _ (by simp [iv_len, hl]; omega), List.set_append_right _ _ (by simp [iv_len, hl]; omega), List.map_set]
  congr 2
  simp [iv_len, hl]; congr 1; omega
theorem once_srw0 {w : World} {b n c : Nat} {ks : List (List Int)} {rs : List Value} {t : TypeId} (h : (Blk.cells [(n * 32, ks.flatMap (iv .u8)), ((c - n) * 32, rs)] t).Is w.heap[b]?) (hl : (ks.flatMap (iv .u8)).length = ks.length * 32) (hn : n = ks.length) : SrW w 32 (some ⟨b, 0, none⟩) n (ks.flatMap (iv .u8)) := by
  have hA : AtW w b [(n * 32, ks.flatMap (iv .u8)), ((c - n) * 32, rs)] := ⟨h.1, _, _, h.2⟩
  exact (hA.sown once_one).mul
section
variable {c : Cx} {Q : Post} {S : Slots} {L L' Lr : List (Nat × Blk)} {ops : Array Oper} {ty T : TypeId} {pos : String} {af : Array Edge} {x y : Operand} {i : Nat} {p : Plan} {g : Option (Nat × Bool)}
theorem vldRR {root : List Int} {ticks : Int} {b o : Nat} {ps : List (Option Nat)} {q : Option Nat} (k : Nat) (hl : root.length = 32) (hq : ps[k]? = some q) (hA : At c L b (rlS root ticks ps) := by exact at_) (hx : ev S x = some (.pointer (some ⟨b, o, none⟩)) := by exact rfl) (ho : o = 33 + k := by rfl) (ht : scB c.P T = true := by kernel_rfl) : Val c S L (.load T x) ty (optV q) := by
  refine V_load1 ht hx hA ?_
  subst ho
  unfold rlS flat
  simp only [List.flatMap_cons, List.flatMap_nil, List.append_nil]
  rw [List.getElem?_append_right (by simp [iv_len, hl]; omega), List.getElem?_append_right (by simp [iv_len, hl]; omega)]
  simp only [iv_len, hl, List.length_singleton]
  rw [show 33 + k - 32 - 1 = k by omega, List.getElem?_map, hq]; rfl
theorem dstRR {root : List Int} {ticks : Int} {b k o : Nat} {ps : List (Option Nat)} {q : Option Nat} {t : TypeId} (ho : ops[i]? = some ⟨none, .store T x y, ty, pos, af, g⟩) (k' : Nat) (hk' : k' = k) (hl : root.length = 32) (K : WD c ops Q Lr p S L') (hk : k < ps.length) (hg : Gd ops S g := by exact trivial) (hx : ev S x = some (.pointer (some ⟨b, o, none⟩)) := by exact rfl) (hq : o = 33 + k := by rfl) (hy : ev S y = some (optV q) := by exact rfl)
    (hu : Upd b (.cells (rlS root ticks (ps.set k q)) t) L (.cells (rlS root ticks ps) t) L' := by exact upd) (ht : szB c.P T 1 = true := by kernel_rfl) (hsl : Lr.Sublist L := by exact subl) (hmm : ∀ p ∈ Lr, p ∈ L' := by simp) : WO c ops Q Lr i p S L :=
  WO.effG ho hg (d := none) rfl hsl (E_storeF ht hx hy rfl hu (by subst hq; simp [rlS, flat, iv_len, hl]; omega) (fun hf => by
    obtain ⟨h1, h2⟩ := hf.cons; obtain ⟨h3, h4⟩ := h2.cons; obtain ⟨h5, _⟩ := h4.cons
    exact Fit.mk h1 (Fit.mk rfl (Fit.mk (by simpa using h5) Fit.nil))) (by subst hq; exact rlS_set hl)) fun v M ⟨_, hM⟩ => by subst hM; exact ⟨hmm, K⟩
end

theorem rof20_calls (root : List Int) (hrl : root.length = 32) (ticks : Int) (b : Nat) (ps : List (Option Nat)) (h8 : ps.length = 8) (n : Int) (w : World) (hR : AtW w b (rlS root ticks ps)) :
    Calls Try.prog 63 [.pointer (some ⟨b, 0, none⟩), .int .i64 n].toArray w fun e w' => e = .returned (optV (ofP ps n)) ∧ HP w w' [] [] := by
 refine calls_of_W Try.func63 rfl Try.ntmps63 rfl rfl (HP.refl w []) ?_
 refine sr ?_
 refine oas ?_
 refine nq ?_
 refine W.seq ?_
 refine W.seq ?_
 by_cases hn : 0 ≤ n ∧ n < 8
 · obtain ⟨q, hq⟩ : ∃ q, ps[n.toNat]? = some q := ⟨_, List.getElem?_eq_getElem (by omega)⟩
   refine W.region ?_
   refine omv ?_
   refine ov (v2 V_lss) ?_
   refine omv ?_
   refine oy rfl (decide_eq_false (by omega)) ?_
   refine omv ?_
   refine oy rfl (decide_eq_false (by omega)) ?_
   refine ov (v2 V_gtr) ?_
   refine ov (V_pick_f rfl (decide_eq_false (by omega)) rfl) ?_
   refine nq ?_
   refine W.cond_false rfl (decide_eq_false (by omega)) ?_
   refine W.skip ?_
   refine WQ.then ?_
   refine sr ?_
   refine omv ?_
   refine omv ?_
   refine ov vnil ?_
   refine ov (vfa0 33 8) ?_
   first | refine ov (viAP 8) ?_ | refine ov (viAPZ 8) ?_
   refine ov (vldRR n.toNat hrl hq) ?_
   refine oas ?_
   refine nq ?_
   refine W.ret ?_
   refine WQ.ret1 Try.results63 (.tmp rfl) ?_
   intro w' hp; exact ⟨by unfold ofP; rw [if_pos hn, hq]; rfl, hp.forget⟩
 · by_cases h1 : n < 0
   · refine W.region ?_
     refine omv ?_
     refine ov (v2 V_lss) ?_
     refine omv ?_
     refine on rfl (decide_eq_true h1) ?_
     refine on rfl (decide_eq_true h1) ?_
     refine ov (V_pick_t rfl (decide_eq_true h1) rfl) ?_
     refine nq ?_
     refine W.cond_true rfl rfl ?_
     refine sr ?_
     refine oas ?_
     refine nq ?_
     refine W.ret ?_
     refine WQ.then_ret ?_
     refine WQ.ret1 Try.results63 (.tmp rfl) ?_
     intro w' hp; exact ⟨by unfold ofP; rw [if_neg hn]; rfl, hp.forget⟩
   · refine W.region ?_
     refine omv ?_
     refine ov (v2 V_lss) ?_
     refine omv ?_
     refine oy rfl (decide_eq_false h1) ?_
     refine omv ?_
     refine oy rfl (decide_eq_false h1) ?_
     refine ov (v2 V_gtr) ?_
     refine ov (V_pick_f rfl (decide_eq_false h1) rfl) ?_
     refine nq ?_
     refine W.cond_true rfl (decide_eq_true (by omega)) ?_
     refine sr ?_
     refine oas ?_
     refine nq ?_
     refine W.ret ?_
     refine WQ.then_ret ?_
     refine WQ.ret1 Try.results63 (.tmp rfl) ?_
     intro w' hp; exact ⟨by unfold ofP; rw [if_neg hn]; rfl, hp.forget⟩

theorem rreg20_calls (root : List Int) (hrl : root.length = 32) (ticks : Int) (b : Nat) (ps : List (Option Nat)) (h8 : ps.length = 8) (n : Int) (link idn sig b3 : List Int) (hs3 : Bool) (A : Option Addr) (len cap : Nat) (ks : List (List Int)) (hl : link.length = 32) (hlb : bytes link) (hil : idn.length = 32) (hsl : sig.length = 32) (hbl : b3.length = 32) (hn : 0 ≤ n ∧ n < 8) (hq : ps[n.toNat]? = some none) (hlen : len = ks.length) (hcap : len ≤ cap) (hk8 : len ≤ 8) (hkl : ∀ k ∈ ks, k.length = 32) (w : World) (hp0 : HP w w (([(b, .cells (rlS root ticks ps) 130)] : List (Nat × Blk)).map (·.1)) [(b, .cells (rlS root ticks ps) 130)]) (hs : ∀ w' M, HP w w' (([(b, .cells (rlS root ticks ps) 130)] : List (Nat × Blk)).map (·.1)) M → SrW w' 32 A len (ks.flatMap (iv .u8))) :
    Calls Try.prog 57 [.pointer (some ⟨b, 0, none⟩), .int .i64 n, AG [(32, iv .u8 link)], AG (bunV idn sig b3 hs3), .slice A len cap].toArray w fun e w' => ∃ a : PAcc, (AOK a ∧ a.abs = AAcc.new link idn sig ks) ∧ e = .returned (.int .i64 0) ∧ HP w w' (([(b, .cells (rlS root ticks ps) 130)] : List (Nat × Blk)).map (·.1)) ((b, .cells (rlS root ticks (ps.set n.toNat (some a.p))) 130) :: accR a) := by
 unfold bunV
 refine calls_of_W Try.func57 rfl Try.ntmps57 rfl rfl hp0 ?_
 refine sr ?_
 refine obxa (fun b7 => ?_)
 refine obxa (fun b8 => ?_)
 refine oas ?_
 refine nq ?_
 refine W.seq ?_
 refine sr ?_
 refine omv ?_
 refine ov (v2 V_lss) ?_
 refine omv ?_
 refine oy rfl (decide_eq_false (by omega)) ?_
 refine omv ?_
 refine oy rfl (decide_eq_false (by omega)) ?_
 refine ov (v2 V_gtr) ?_
 refine ov (V_pick_f rfl (decide_eq_false (by omega)) rfl) ?_
 refine omv ?_
 refine oy rfl (decide_eq_false (by omega)) ?_
 refine omv ?_
 refine oy rfl (decide_eq_false (by omega)) ?_
 refine ov vlenS ?_
 refine oy rfl (decide_eq_false (by omega)) ?_
 refine ov (v2 V_gtr) ?_
 refine ov (V_pick_f rfl (decide_eq_false (by omega)) rfl) ?_
 refine nq ?_
 refine W.cond_false rfl (decide_eq_false (by omega)) ?_
 refine W.skip ?_
 refine WQ.then ?_
 refine W.seq ?_
 refine sr ?_
 refine omv ?_
 refine omv ?_
 refine ov vnil ?_
 refine ov (vfa0 33 8) ?_
 first | refine ov (viAP 8) ?_ | refine ov (viAPZ 8) ?_
 refine ov (vldRR n.toNat hrl hq) ?_
 refine ov (V_neqP (by kernel_rfl) rfl rfl) ?_
 refine nq ?_
 refine W.cond_false rfl rfl ?_
 refine W.skip ?_
 refine WQ.then ?_
 refine sr ?_
 refine cg rfl (fun w hp => rnew_calls 5 10 w b510) (fun b32 h32 => ?_)
 refine omv ?_
 refine ov vex ?_
 refine ov vex ?_
 refine oas ?_
 refine oas ?_
 refine nq ?_
 refine W.seq ?_
 apply W.j7
 · intro hJ
   refine dr (.q 0 (.q 1 (.q 2 (.q 3 (.q 5 (.q 7 (.q 9 (.q 12 (.q 13 (.l2 4 (.l2 6 (.l 8 (.q 10 (.l 11 (.q 14 (.l 15 (.done)))))) 8 (.l 6 (.q 10 (.l 11 (.q 14 (.l 15 (.done))))))) 8 (.l 4 (.l 6 (.q 10 (.l 11 (.q 14 (.l 15 (.done))))))))))))))))) [(b8, _), (b7, _)] ?_
   refine dq rfl (V_move rfl) ?_
   refine dq rfl (V_move rfl) ?_
   refine dq rfl (vlda 32) ?_
   refine dq rfl (vlda 97) ?_
   refine dq rfl (V_move rfl) ?_
   refine dq rfl (V_build (by kernel_rfl) (zi (zs := [(1, [.slice none 0 0]), (1, [.int .i64 0])])) (.nil _)) ?_
   refine dq rfl (V_move rfl) ?_
   refine dq rfl vnil ?_
   refine dq rfl (vfa0 33 8) ?_
   refine WD.l2 ?_ ?_
   · refine dbs0 rfl 23 32 32 (fun b39 => ?_)
     refine WD.l2 ?_ ?_
     · refine dapM0 rfl 23 32 32 (fun b41 c41 r41 h41 => ?_) (fun w hp => hs w _ hp)
       refine WD.l ?_
       refine dbxa rfl (fun b43 => ?_)
       refine dq rfl (V_build (by kernel_rfl) (zi (zs := [(32, List.replicate 32 (.int .u8 0)), (32, List.replicate 32 (.int .u8 0)), (32, List.replicate 32 (.int .u8 0)), (32, List.replicate 32 (.int .u8 0)), (1, [.bool false]), (1, [.slice none 0 0]), (1, [.pointer none]), (1, [.pointer none]), (1, [.bool false])])) (.agg (k := 0) (n := 32) rfl fit fln (by kernel_rfl) rfl (.agg (k := 32) (n := 97) rfl fit fln (by kernel_rfl) rfl (.one (k := 129) rfl rfl (by kernel_rfl) rfl (.one (k := 130) rfl rfl (by kernel_rfl) rfl (.one (k := 131) rfl rfl (by kernel_rfl) rfl (.nil _))))))) ?_
       refine WD.l ?_
       refine dbxa rfl (fun b46 => ?_)
       first | refine dq rfl (viAP 8) ?_ | refine dq rfl (viAPZ 8) ?_
       refine WD.l ?_
       refine dstRR rfl n.toNat rfl hrl ?_ (by omega) (root := root) (ticks := ticks) (ps := ps) (q := some b46)
       refine WD.done ?_
       exact WQ.pick (S' := [(0, _), (1, _), (2, _), (3, _), (4, _), (10, _), (23, _), (30, _)]) [0, 1, 2, 3, 4, 10, 23, 30] rfl (hJ b39 b41 c41 r41 h41 b43 b46)
     · refine dbxa rfl (fun b43 => ?_)
       refine WD.l ?_
       refine dapM0 rfl 23 32 32 (fun b41 c41 r41 h41 => ?_) (fun w hp => hs w _ hp)
       refine dq rfl (V_build (by kernel_rfl) (zi (zs := [(32, List.replicate 32 (.int .u8 0)), (32, List.replicate 32 (.int .u8 0)), (32, List.replicate 32 (.int .u8 0)), (32, List.replicate 32 (.int .u8 0)), (1, [.bool false]), (1, [.slice none 0 0]), (1, [.pointer none]), (1, [.pointer none]), (1, [.bool false])])) (.agg (k := 0) (n := 32) rfl fit fln (by kernel_rfl) rfl (.agg (k := 32) (n := 97) rfl fit fln (by kernel_rfl) rfl (.one (k := 129) rfl rfl (by kernel_rfl) rfl (.one (k := 130) rfl rfl (by kernel_rfl) rfl (.one (k := 131) rfl rfl (by kernel_rfl) rfl (.nil _))))))) ?_
       refine WD.l ?_
       refine dbxa rfl (fun b46 => ?_)
       first | refine dq rfl (viAP 8) ?_ | refine dq rfl (viAPZ 8) ?_
       refine WD.l ?_
       refine dstRR rfl n.toNat rfl hrl ?_ (by omega) (root := root) (ticks := ticks) (ps := ps) (q := some b46)
       refine WD.done ?_
       exact WQ.pick (S' := [(0, _), (1, _), (2, _), (3, _), (4, _), (10, _), (23, _), (30, _)]) [0, 1, 2, 3, 4, 10, 23, 30] rfl (WQ.cov _ (hJ b39 b41 c41 r41 h41 b43 b46))
   · refine dbxa rfl (fun b43 => ?_)
     refine WD.l ?_
     refine dbs0 rfl 23 32 32 (fun b39 => ?_)
     refine WD.l ?_
     refine dapM0 rfl 23 32 32 (fun b41 c41 r41 h41 => ?_) (fun w hp => hs w _ hp)
     refine dq rfl (V_build (by kernel_rfl) (zi (zs := [(32, List.replicate 32 (.int .u8 0)), (32, List.replicate 32 (.int .u8 0)), (32, List.replicate 32 (.int .u8 0)), (32, List.replicate 32 (.int .u8 0)), (1, [.bool false]), (1, [.slice none 0 0]), (1, [.pointer none]), (1, [.pointer none]), (1, [.bool false])])) (.agg (k := 0) (n := 32) rfl fit fln (by kernel_rfl) rfl (.agg (k := 32) (n := 97) rfl fit fln (by kernel_rfl) rfl (.one (k := 129) rfl rfl (by kernel_rfl) rfl (.one (k := 130) rfl rfl (by kernel_rfl) rfl (.one (k := 131) rfl rfl (by kernel_rfl) rfl (.nil _))))))) ?_
     refine WD.l ?_
     refine dbxa rfl (fun b46 => ?_)
     first | refine dq rfl (viAP 8) ?_ | refine dq rfl (viAPZ 8) ?_
     refine WD.l ?_
     refine dstRR rfl n.toNat rfl hrl ?_ (by omega) (root := root) (ticks := ticks) (ps := ps) (q := some b46)
     refine WD.done ?_
     exact WQ.pick (S' := [(0, _), (1, _), (2, _), (3, _), (4, _), (10, _), (23, _), (30, _)]) [0, 1, 2, 3, 4, 10, 23, 30] rfl (WQ.cov _ (hJ b39 b41 c41 r41 h41 b43 b46))
 intro b39 b41 c41 r41 h41 b43 b46
 refine WQ.then ?_
 refine sr ?_
 refine oas ?_
 refine nq ?_
 refine W.ret ?_
 refine WQ.ret1 Try.results57 (.tmp rfl) ?_
 intro w' hp; refine ⟨⟨link, idn, sig, b3, hs3, false, 0, 5, 0, b46, b43, b32, none, [], some ⟨b41, 0, none⟩, len, c41, ks, [(b41, .cells [(len * 32, ks.flatMap (iv .u8)), ((c41 - len) * 32, r41)] 23)]⟩, ⟨?_, rfl⟩, rfl, ?_⟩
 · exact ⟨hl, hlb, hil, hsl, hbl, ⟨fun m hm => (List.not_mem_nil hm).elim, Nat.zero_le _⟩, rfl, Int.le_refl _, okB510, hlen, h41, hkl, hk8, fun w hw => by
     have h2 := hw _ List.mem_cons_self
     exact once_srw0 h2 (once_len hkl) hlen⟩
 · simp only [accR, hid0]; exact hp.cov cov

theorem rreg20_bad (root : List Int) (hrl : root.length = 32) (ticks : Int) (b : Nat) (ps : List (Option Nat)) (h8 : ps.length = 8) (n : Int) (link idn sig b3 : List Int) (hs3 : Bool) (A : Option Addr) (len cap : Nat) (ks : List (List Int)) (hl : link.length = 32) (hlb : bytes link) (hil : idn.length = 32) (hsl : sig.length = 32) (hbl : b3.length = 32) (hbad : ¬ (0 ≤ n ∧ n < 8) ∨ 8 < len) (w : World) :
    Calls Try.prog 57 [.pointer (some ⟨b, 0, none⟩), .int .i64 n, AG [(32, iv .u8 link)], AG (bunV idn sig b3 hs3), .slice A len cap].toArray w fun e w' => e = .returned (.int .i64 1) ∧ HP w w' [] [] := by
 unfold bunV
 refine calls_of_W Try.func57 rfl Try.ntmps57 rfl rfl (HP.refl w []) ?_
 refine sr ?_
 refine obxa (fun b7 => ?_)
 refine obxa (fun b8 => ?_)
 refine oas ?_
 refine nq ?_
 refine W.seq ?_
 refine W.seq ?_
 by_cases h1 : n < 0
 · refine W.region ?_
   refine omv ?_
   refine ov (v2 V_lss) ?_
   refine omv ?_
   refine on rfl (decide_eq_true h1) ?_
   refine on rfl (decide_eq_true h1) ?_
   refine ov (V_pick_t rfl (decide_eq_true h1) rfl) ?_
   refine omv ?_
   refine on rfl rfl ?_
   refine on rfl rfl ?_
   refine on rfl rfl ?_
   refine ov (V_pick_t rfl rfl rfl) ?_
   refine nq ?_
   refine W.cond_true rfl rfl ?_
   refine sr ?_
   refine oas ?_
   refine nq ?_
   refine W.ret ?_
   refine WQ.then_ret ?_
   refine WQ.ret1 Try.results57 (.tmp rfl) ?_
   intro w' hp; exact ⟨by first | rfl | (simp; done) | (simp [*]; done) | simp_all, hp.forget⟩
 · by_cases h2 : 7 < n
   · refine W.region ?_
     refine omv ?_
     refine ov (v2 V_lss) ?_
     refine omv ?_
     refine oy rfl (decide_eq_false h1) ?_
     refine omv ?_
     refine oy rfl (decide_eq_false h1) ?_
     refine ov (v2 V_gtr) ?_
     refine ov (V_pick_f rfl (decide_eq_false h1) rfl) ?_
     refine omv ?_
     refine on rfl (decide_eq_true (by omega)) ?_
     refine on rfl (decide_eq_true (by omega)) ?_
     refine on rfl (decide_eq_true (by omega)) ?_
     refine ov (V_pick_t rfl (decide_eq_true (by omega)) rfl) ?_
     refine nq ?_
     refine W.cond_true rfl rfl ?_
     refine sr ?_
     refine oas ?_
     refine nq ?_
     refine W.ret ?_
     refine WQ.then_ret ?_
     refine WQ.ret1 Try.results57 (.tmp rfl) ?_
     intro w' hp; exact ⟨by first | rfl | (simp; done) | (simp [*]; done) | simp_all, hp.forget⟩
   · refine W.region ?_
     refine omv ?_
     refine ov (v2 V_lss) ?_
     refine omv ?_
     refine oy rfl (decide_eq_false h1) ?_
     refine omv ?_
     refine oy rfl (decide_eq_false h1) ?_
     refine ov (v2 V_gtr) ?_
     refine ov (V_pick_f rfl (decide_eq_false h1) rfl) ?_
     refine omv ?_
     refine oy rfl (decide_eq_false (by omega)) ?_
     refine omv ?_
     refine oy rfl (decide_eq_false (by omega)) ?_
     refine ov vlenS ?_
     refine oy rfl (decide_eq_false (by omega)) ?_
     refine ov (v2 V_gtr) ?_
     refine ov (V_pick_f rfl (decide_eq_false (by omega)) rfl) ?_
     refine nq ?_
     refine W.cond_true rfl (decide_eq_true (by omega)) ?_
     refine sr ?_
     refine oas ?_
     refine nq ?_
     refine W.ret ?_
     refine WQ.then_ret ?_
     refine WQ.ret1 Try.results57 (.tmp rfl) ?_
     intro w' hp; exact ⟨by first | rfl | (simp; done) | (simp [*]; done) | simp_all, hp.forget⟩

theorem rreg20_twice (root : List Int) (hrl : root.length = 32) (ticks : Int) (b : Nat) (ps : List (Option Nat)) (h8 : ps.length = 8) (n : Int) (link idn sig b3 : List Int) (hs3 : Bool) (A : Option Addr) (len cap : Nat) (ks : List (List Int)) (hl : link.length = 32) (hlb : bytes link) (hil : idn.length = 32) (hsl : sig.length = 32) (hbl : b3.length = 32) (q : Nat) (hn : 0 ≤ n ∧ n < 8) (hq : ps[n.toNat]? = some (some q)) (hk8 : len ≤ 8) (w : World) (hR : AtW w b (rlS root ticks ps)) :
    Calls Try.prog 57 [.pointer (some ⟨b, 0, none⟩), .int .i64 n, AG [(32, iv .u8 link)], AG (bunV idn sig b3 hs3), .slice A len cap].toArray w fun e w' => e = .returned (.int .i64 9) ∧ HP w w' [] [] := by
 unfold bunV
 refine calls_of_W Try.func57 rfl Try.ntmps57 rfl rfl (HP.refl w []) ?_
 refine sr ?_
 refine obxa (fun b7 => ?_)
 refine obxa (fun b8 => ?_)
 refine oas ?_
 refine nq ?_
 refine W.seq ?_
 refine sr ?_
 refine omv ?_
 refine ov (v2 V_lss) ?_
 refine omv ?_
 refine oy rfl (decide_eq_false (by omega)) ?_
 refine omv ?_
 refine oy rfl (decide_eq_false (by omega)) ?_
 refine ov (v2 V_gtr) ?_
 refine ov (V_pick_f rfl (decide_eq_false (by omega)) rfl) ?_
 refine omv ?_
 refine oy rfl (decide_eq_false (by omega)) ?_
 refine omv ?_
 refine oy rfl (decide_eq_false (by omega)) ?_
 refine ov vlenS ?_
 refine oy rfl (decide_eq_false (by omega)) ?_
 refine ov (v2 V_gtr) ?_
 refine ov (V_pick_f rfl (decide_eq_false (by omega)) rfl) ?_
 refine nq ?_
 refine W.cond_false rfl (decide_eq_false (by omega)) ?_
 refine W.skip ?_
 refine WQ.then ?_
 refine W.seq ?_
 refine sr ?_
 refine omv ?_
 refine omv ?_
 refine ov vnil ?_
 refine ov (vfa0 33 8) ?_
 first | refine ov (viAP 8) ?_ | refine ov (viAPZ 8) ?_
 refine ov (vldRR n.toNat hrl hq) ?_
 refine ov (V_neqP (by kernel_rfl) rfl rfl) ?_
 refine nq ?_
 refine W.cond_true rfl rfl ?_
 refine sr ?_
 refine oas ?_
 refine nq ?_
 refine W.ret ?_
 refine WQ.then_ret ?_
 refine WQ.ret1 Try.results57 (.tmp rfl) ?_
 intro w' hp; exact ⟨by first | rfl | (simp; done) | (simp [*]; done) | simp_all, hp.forget⟩

theorem rfet20_calls (root : List Int) (hrl : root.length = 32) (ticks : Int) (b : Nat) (ps : List (Option Nat)) (h8 : ps.length = 8) (n : Int) (a : PAcc) (hpk : AOK a) (hq : ofP ps n = some a.p) (w : World) (hp0 : HP w w (((b, .cells (rlS root ticks ps) 130) :: accR a).map (·.1)) ((b, .cells (rlS root ticks ps) 130) :: accR a)) :
    Calls Try.prog 58 [.pointer (some ⟨b, 0, none⟩), .int .i64 n].toArray w fun e w' => ∃ a' : PAcc, (AOK a' ∧ a'.p = a.p ∧ a'.abs = fetL a.abs) ∧ e = .returned (.tuple #[AG (bunA a.abs), .int .i64 0]) ∧ HP w w' (((b, .cells (rlS root ticks ps) 130) :: accR a).map (·.1)) ((b, .cells (rlS root ticks ps) 130) :: accR a') := by
 obtain ⟨link, idn, sig, b3, hs3, susp, t, nt, many, p, bx, tk, o, ms, oA, on, oc, ks, oL⟩ := a
 have hok := hpk
 obtain ⟨al, alb, ai, as_, ab, ams, ao, am, abk, aon, aoc, akl, ak8, aonce⟩ := hok
 dsimp only at al alb ai as_ ab ams ao am abk aon aoc akl ak8 aonce hq ⊢
 have hn := (ofP_yes hq).1
 simp only [accR, hid0] at hp0 ⊢
 refine calls_of_W Try.func58 rfl Try.ntmps58 rfl rfl hp0 ?_
 refine sr ?_
 refine oal [(32, List.replicate 32 (.int .u8 0)), (32, List.replicate 32 (.int .u8 0)), (32, List.replicate 32 (.int .u8 0)), (1, [.bool false])] (fun b4 => ?_)
 refine oas ?_
 refine nx ?_
 refine omv ?_
 refine omv ?_
 refine cp (v := .pointer (some ⟨p, 0, none⟩)) rfl (fun w hp => (rof20_calls root hrl ticks b ps h8 n w hat).mono fun e w' ⟨h1, h2⟩ => ⟨by rw [h1, hq]; rfl, h2⟩) ?_
 refine oas ?_
 refine nq ?_
 refine W.seq ?_
 refine sr ?_
 refine omv ?_
 refine ov (V_eqlP (by kernel_rfl) rfl rfl) ?_
 refine nq ?_
 refine W.cond_false rfl rfl ?_
 refine W.skip ?_
 refine WQ.then ?_
 refine W.seq ?_
 refine dr (.q 0 (.q 1 (.q 2 (.q 3 (.q 4 (.q 5 (.q 6 (.q 7 (.q 8 (.q 9 (.q 10 (.l 11 (.l 12 (.done)))))))))))))) [(p, _)] ?_
 refine dq rfl (V_move rfl) ?_
 refine dq rfl vnil ?_
 refine dq rfl (vfa0 32 97) ?_
 refine dq rfl (vfa 0 32) ?_
 refine dq rfl (vlda 32) ?_
 refine dq rfl (V_move rfl) ?_
 refine dq rfl vnil ?_
 refine dq rfl (vfa0 32 97) ?_
 refine dq rfl (vfa 32 32) ?_
 refine dq rfl (vlda 32) ?_
 refine dq rfl (V_build (by kernel_rfl) (zi (zs := [(32, List.replicate 32 (.int .u8 0)), (32, List.replicate 32 (.int .u8 0)), (32, List.replicate 32 (.int .u8 0)), (1, [.bool false])])) (.agg (k := 0) (n := 32) rfl fit fln (by kernel_rfl) rfl (.agg (k := 32) (n := 32) rfl fit fln (by kernel_rfl) rfl (.nil _)))) ?_
 refine WD.l ?_
 refine dal rfl [(32, List.replicate 32 (.int .u8 0)), (32, List.replicate 32 (.int .u8 0)), (32, List.replicate 32 (.int .u8 0)), (1, [.bool false])] (fun b7 => ?_)
 refine WD.l ?_
 refine dsta rfl 97 ?_
 refine WD.done ?_
 refine WQ.then ?_
 refine W.seq ?_
 refine W.seq ?_
 by_cases hk : ∃ k ks2, ks = k :: ks2
 · obtain ⟨k, ks2, rfl⟩ := hk
   have hk0 := akl k List.mem_cons_self
   have hks : ks2.length = on - 1 := by simp at aon; omega
   have hon : 0 < on := by simp at aon; omega
   obtain ⟨bA, qA, rfl⟩ : ∃ x y, oA = some ⟨x, y, none⟩ := by
     have h1 := hpk.sr hp0
     obtain ⟨x, y, z⟩ := h1.has (by dsimp only; rw [once_len akl]; simp); exact ⟨x, y, z⟩
   refine W.region ?_
   refine omv ?_
   refine ov vnil ?_
   refine ov (vfa0 129 1) ?_
   refine ov vld ?_
   refine ov vlenS ?_
   refine ov (v2 V_gtr) ?_
   refine nq ?_
   refine W.cond_true rfl (decide_eq_true (by omega)) ?_
   refine sr ?_
   refine omv ?_
   refine ov vnil ?_
   refine ov (vfa0 129 1) ?_
   refine ov vld ?_
   refine ov (viS 32) ?_
   refine ov (vldOAs' 32 0 (l := k :: ks2) (ds := [(32, iv .u8 k)]) (kv_len akl) (fun w hp => hpk.sr hp) rfl (by simp [flat]) (hq := by rfl)) ?_
   refine ov (vfa0 64 32) ?_
   refine osta 32 ?_
   refine nx ?_
   refine ov (vfa0 96 1) ?_
   refine ost ?_
   refine nq ?_
   refine W.region ?_
   refine omv ?_
   refine omv ?_
   refine ov vnil ?_
   refine ov (vfa0 129 1) ?_
   refine ov vld ?_
   refine ov (vslFr 32 (l := 1)) ?_
   refine ov vnil ?_
   refine ov (vfa0 129 1) ?_
   refine ost ?_
   refine nx ?_
   refine ov (vlda 97) ?_
   refine osta 97 ?_
   refine oas ?_
   refine nq ?_
   refine W.ret ?_
   refine WQ.ret2 Try.results58 (.cellA 97 (by kernel_rfl) rfl at_ (by rfl)) (.tmp rfl) ?_
   intro w' hp; refine ⟨⟨link, idn, sig, b3, hs3, susp, t, nt, many, p, bx, tk, o, ms, cutA (some ⟨bA, qA, none⟩) 1 oc 32, on - 1, oc - 1, ks2, oL⟩, ⟨?_, rfl, rfl⟩, rfl, hp.cov cov⟩
   exact ⟨al, alb, ai, as_, ab, ams, ao, am, abk, hks.symm, by dsimp only; omega, fun k' hk' => akl k' (List.mem_cons_of_mem _ hk'), by dsimp only; omega, fun w hw => once_cut (aonce w hw) hk0 (once_len fun k' hk' => akl k' (List.mem_cons_of_mem _ hk')) hks hon aoc⟩
 · have hks : ks = [] := by
     cases ks with
     | nil => rfl
     | cons k ks2 => exact absurd ⟨k, ks2, rfl⟩ hk
   subst hks
   have hon : on = 0 := aon
   refine W.region ?_
   refine omv ?_
   refine ov vnil ?_
   refine ov (vfa0 129 1) ?_
   refine ov vld ?_
   refine ov vlenS ?_
   refine ov (v2 V_gtr) ?_
   refine nq ?_
   refine W.cond_false rfl (decide_eq_false (by omega)) ?_
   refine W.skip ?_
   refine WQ.then ?_
   refine sr ?_
   refine ov (vlda 97) ?_
   refine osta 97 ?_
   refine oas ?_
   refine nq ?_
   refine W.ret ?_
   refine WQ.ret2 Try.results58 (.cellA 97 (by kernel_rfl) rfl at_ (by rfl)) (.tmp rfl) ?_
   intro w' hp; subst hon; exact ⟨⟨link, idn, sig, b3, hs3, susp, t, nt, many, p, bx, tk, o, ms, oA, 0, oc, [], oL⟩, ⟨hpk, rfl, rfl⟩, rfl, hp.cov cov⟩

theorem rfet20_none (root : List Int) (hrl : root.length = 32) (ticks : Int) (b : Nat) (ps : List (Option Nat)) (h8 : ps.length = 8) (n : Int)  (hq : ofP ps n = none) (w : World) (hR : AtW w b (rlS root ticks ps)) :
    Calls Try.prog 58 [.pointer (some ⟨b, 0, none⟩), .int .i64 n].toArray w fun e w' => e = .returned (.tuple #[AG bun0, .int .i64 7]) ∧ HP w w' [] [] := by
 refine calls_of_W Try.func58 rfl Try.ntmps58 rfl rfl (HP.refl w []) ?_
 refine sr ?_
 refine oal [(32, List.replicate 32 (.int .u8 0)), (32, List.replicate 32 (.int .u8 0)), (32, List.replicate 32 (.int .u8 0)), (1, [.bool false])] (fun b4 => ?_)
 refine oas ?_
 refine nx ?_
 refine omv ?_
 refine omv ?_
 refine cp (v := .pointer none) rfl (fun w hp => (rof20_calls root hrl ticks b ps h8 n w hat).mono fun e w' ⟨h1, h2⟩ => ⟨by rw [h1, hq]; rfl, h2⟩) ?_
 refine oas ?_
 refine nq ?_
 refine W.seq ?_
 refine sr ?_
 refine omv ?_
 refine ov (V_eqlP (by kernel_rfl) rfl rfl) ?_
 refine nq ?_
 refine W.cond_true rfl rfl ?_
 refine sr ?_
 refine ov (V_build (by kernel_rfl) (zi (zs := [(32, List.replicate 32 (.int .u8 0)), (32, List.replicate 32 (.int .u8 0)), (32, List.replicate 32 (.int .u8 0)), (1, [.bool false])])) (.nil _)) ?_
 refine osta 97 ?_
 refine oas ?_
 refine nq ?_
 refine W.ret ?_
 refine WQ.then_ret ?_
 refine WQ.ret2 Try.results58 (.cellA 97 (by kernel_rfl) rfl at_ (by rfl)) (.tmp rfl) ?_
 intro w' hp; exact ⟨rfl, hp.forget⟩

theorem rmails20_calls (root : List Int) (hrl : root.length = 32) (ticks : Int) (b : Nat) (ps : List (Option Nat)) (h8 : ps.length = 8) (n : Int) (a : PAcc) (hpk : AOK a) (hq : ofP ps n = some a.p) (w : World) (hp0 : HP w w (((b, .cells (rlS root ticks ps) 130) :: accR a).map (·.1)) ((b, .cells (rlS root ticks ps) 130) :: accR a)) :
    Calls Try.prog 28 [.pointer (some ⟨b, 0, none⟩), .int .i64 n].toArray w fun e w' => ∃ r : Unit, True ∧ e = .returned (.tuple #[.slice (gA a.o) a.ms.length (gC a.o), .int .i64 0]) ∧ HP w w' (((b, .cells (rlS root ticks ps) 130) :: accR a).map (·.1)) ((b, .cells (rlS root ticks ps) 130) :: accR a) := by
 obtain ⟨link, idn, sig, b3, hs3, susp, t, nt, many, p, bx, tk, o, ms, oA, on, oc, ks, oL⟩ := a
 have hok := hpk
 obtain ⟨al, alb, ai, as_, ab, ams, ao, am, abk, aon, aoc, akl, ak8, aonce⟩ := hok
 dsimp only at al alb ai as_ ab ams ao am abk aon aoc akl ak8 aonce hq ⊢
 have hn := (ofP_yes hq).1
 simp only [accR, hid0] at hp0 ⊢
 refine calls_of_W Try.func28 rfl Try.ntmps28 rfl rfl hp0 ?_
 refine sr ?_
 refine oas ?_
 refine oas ?_
 refine nx ?_
 refine omv ?_
 refine omv ?_
 refine cp (v := .pointer (some ⟨p, 0, none⟩)) rfl (fun w hp => (rof20_calls root hrl ticks b ps h8 n w hat).mono fun e w' ⟨h1, h2⟩ => ⟨by rw [h1, hq]; rfl, h2⟩) ?_
 refine oas ?_
 refine nq ?_
 refine W.seq ?_
 refine sr ?_
 refine omv ?_
 refine ov (V_eqlP (by kernel_rfl) rfl rfl) ?_
 refine nq ?_
 refine W.cond_false rfl rfl ?_
 refine W.skip ?_
 refine WQ.then ?_
 refine sr ?_
 refine omv ?_
 refine ov vnil ?_
 refine ov (vfa0 130 1) ?_
 refine ov vld ?_
 refine ov vnil ?_
 refine ov (vfa 0 1) ?_
 refine ov vld ?_
 refine oas ?_
 refine oas ?_
 refine nq ?_
 refine W.ret ?_
 refine WQ.ret2 Try.results28 (.tmp rfl) (.tmp rfl) ?_
 intro w' hp; exact ⟨(), trivial, rfl, hp.cov cov⟩

theorem rmails20_none (root : List Int) (hrl : root.length = 32) (ticks : Int) (b : Nat) (ps : List (Option Nat)) (h8 : ps.length = 8) (n : Int)  (hq : ofP ps n = none) (w : World) (hR : AtW w b (rlS root ticks ps)) :
    Calls Try.prog 28 [.pointer (some ⟨b, 0, none⟩), .int .i64 n].toArray w fun e w' => e = .returned (.tuple #[.slice none 0 0, .int .i64 7]) ∧ HP w w' [] [] := by
 refine calls_of_W Try.func28 rfl Try.ntmps28 rfl rfl (HP.refl w []) ?_
 refine sr ?_
 refine oas ?_
 refine oas ?_
 refine nx ?_
 refine omv ?_
 refine omv ?_
 refine cp (v := .pointer none) rfl (fun w hp => (rof20_calls root hrl ticks b ps h8 n w hat).mono fun e w' ⟨h1, h2⟩ => ⟨by rw [h1, hq]; rfl, h2⟩) ?_
 refine oas ?_
 refine nq ?_
 refine W.seq ?_
 refine sr ?_
 refine omv ?_
 refine ov (V_eqlP (by kernel_rfl) rfl rfl) ?_
 refine nq ?_
 refine W.cond_true rfl rfl ?_
 refine sr ?_
 refine oas ?_
 refine oas ?_
 refine nq ?_
 refine W.ret ?_
 refine WQ.then_ret ?_
 refine WQ.ret2 Try.results28 (.tmp rfl) (.tmp rfl) ?_
 intro w' hp; exact ⟨rfl, hp.forget⟩

theorem rack20_calls (root : List Int) (hrl : root.length = 32) (ticks : Int) (b : Nat) (ps : List (Option Nat)) (h8 : ps.length = 8) (n : Int) (a : PAcc) (hpk : AOK a) (hq : ofP ps n = some a.p) (id : Int) (w : World) (hp0 : HP w w (((b, .cells (rlS root ticks ps) 130) :: accR a).map (·.1)) ((b, .cells (rlS root ticks ps) 130) :: accR a)) :
    Calls Try.prog 59 [.pointer (some ⟨b, 0, none⟩), .int .i64 n, .int .i64 id].toArray w fun e w' => ∃ a' : PAcc, (AOK a' ∧ a'.p = a.p ∧ a'.abs = ackA a.abs id) ∧ e = .returned (.int .i64 (ackE a.abs.ms a.many id)) ∧ HP w w' (((b, .cells (rlS root ticks ps) 130) :: accR a).map (·.1)) ((b, .cells (rlS root ticks ps) 130) :: accR a') := by
 obtain ⟨link, idn, sig, b3, hs3, susp, t, nt, many, p, bx, tk, o, ms, oA, on, oc, ks, oL⟩ := a
 have hok := hpk
 obtain ⟨al, alb, ai, as_, ab, ams, ao, am, abk, aon, aoc, akl, ak8, aonce⟩ := hok
 dsimp only at al alb ai as_ ab ams ao am abk aon aoc akl ak8 aonce hq ⊢
 have hn := (ofP_yes hq).1
 simp only [accR, hid0] at hp0 ⊢
 refine calls_of_W Try.func59 rfl Try.ntmps59 rfl rfl hp0 ?_
 refine sr ?_
 refine oas ?_
 refine nx ?_
 refine omv ?_
 refine omv ?_
 refine cp (v := .pointer (some ⟨p, 0, none⟩)) rfl (fun w hp => (rof20_calls root hrl ticks b ps h8 n w hat).mono fun e w' ⟨h1, h2⟩ => ⟨by rw [h1, hq]; rfl, h2⟩) ?_
 refine oas ?_
 refine nq ?_
 refine W.seq ?_
 refine sr ?_
 refine omv ?_
 refine ov (V_eqlP (by kernel_rfl) rfl rfl) ?_
 refine nq ?_
 refine W.cond_false rfl rfl ?_
 refine W.skip ?_
 refine WQ.then ?_
 refine sr ?_
 refine omv ?_
 refine ov vnil ?_
 refine ov (vfa0 130 1) ?_
 refine ov vld ?_
 refine omv ?_
 refine cgP _ rfl (fun w hp => rack19_calls bx o ms many ao ams id w (HP.here hp cov)) (fun r18 h18 => ?_)
 simp only [List.cons_append, List.nil_append, List.append_nil, List.append_assoc]
 refine WL.back (gLM 138 r18.1 r18.2.length (r18.2.flatMap mlV) 138) ?_
 simp only [List.cons_append, List.nil_append, List.append_nil, List.append_assoc]
 refine WL.back (r18.2.flatMap mbL) ?_
 simp only [List.cons_append, List.nil_append, List.append_nil, List.append_assoc]
 refine oas ?_
 refine nq ?_
 refine W.ret ?_
 refine WQ.ret1 Try.results59 (.tmp rfl) ?_
 intro w' hp; refine ⟨⟨link, idn, sig, b3, hs3, susp, t, nt, many, p, bx, tk, r18.1, r18.2, oA, on, oc, ks, oL⟩, ⟨?_, rfl, ?_⟩, rfl, hp.cov cov⟩
 · exact ⟨al, alb, ai, as_, ab, h18.2.1, h18.2.2, am, abk, aon, aoc, akl, ak8, aonce⟩
 · unfold PAcc.abs ackA; dsimp only; rw [h18.1]

theorem rack20_none (root : List Int) (hrl : root.length = 32) (ticks : Int) (b : Nat) (ps : List (Option Nat)) (h8 : ps.length = 8) (n : Int) (id : Int) (hq : ofP ps n = none) (w : World) (hR : AtW w b (rlS root ticks ps)) :
    Calls Try.prog 59 [.pointer (some ⟨b, 0, none⟩), .int .i64 n, .int .i64 id].toArray w fun e w' => e = .returned (.int .i64 7) ∧ HP w w' [] [] := by
 refine calls_of_W Try.func59 rfl Try.ntmps59 rfl rfl (HP.refl w []) ?_
 refine sr ?_
 refine oas ?_
 refine nx ?_
 refine omv ?_
 refine omv ?_
 refine cp (v := .pointer none) rfl (fun w hp => (rof20_calls root hrl ticks b ps h8 n w hat).mono fun e w' ⟨h1, h2⟩ => ⟨by rw [h1, hq]; rfl, h2⟩) ?_
 refine oas ?_
 refine nq ?_
 refine W.seq ?_
 refine sr ?_
 refine omv ?_
 refine ov (V_eqlP (by kernel_rfl) rfl rfl) ?_
 refine nq ?_
 refine W.cond_true rfl rfl ?_
 refine sr ?_
 refine oas ?_
 refine nq ?_
 refine W.ret ?_
 refine WQ.then_ret ?_
 refine WQ.ret1 Try.results59 (.tmp rfl) ?_
 intro w' hp; exact ⟨rfl, hp.forget⟩

theorem rsus20_calls (root : List Int) (hrl : root.length = 32) (ticks : Int) (b : Nat) (ps : List (Option Nat)) (h8 : ps.length = 8) (n : Int) (a : PAcc) (hpk : AOK a) (hq : ofP ps n = some a.p) (is : Bool) (w : World) (hp0 : HP w w (((b, .cells (rlS root ticks ps) 130) :: accR a).map (·.1)) ((b, .cells (rlS root ticks ps) 130) :: accR a)) :
    Calls Try.prog 60 [.pointer (some ⟨b, 0, none⟩), .int .i64 n, .bool is].toArray w fun e w' => ∃ a' : PAcc, (AOK a' ∧ a'.p = a.p ∧ a'.abs = susL a.abs is) ∧ e = .returned (.int .i64 0) ∧ HP w w' (((b, .cells (rlS root ticks ps) 130) :: accR a).map (·.1)) ((b, .cells (rlS root ticks ps) 130) :: accR a') := by
 obtain ⟨link, idn, sig, b3, hs3, susp, t, nt, many, p, bx, tk, o, ms, oA, on, oc, ks, oL⟩ := a
 have hok := hpk
 obtain ⟨al, alb, ai, as_, ab, ams, ao, am, abk, aon, aoc, akl, ak8, aonce⟩ := hok
 dsimp only at al alb ai as_ ab ams ao am abk aon aoc akl ak8 aonce hq ⊢
 have hn := (ofP_yes hq).1
 simp only [accR, hid0] at hp0 ⊢
 refine calls_of_W Try.func60 rfl Try.ntmps60 rfl rfl hp0 ?_
 refine sr ?_
 refine oas ?_
 refine nx ?_
 refine omv ?_
 refine omv ?_
 refine cp (v := .pointer (some ⟨p, 0, none⟩)) rfl (fun w hp => (rof20_calls root hrl ticks b ps h8 n w hat).mono fun e w' ⟨h1, h2⟩ => ⟨by rw [h1, hq]; rfl, h2⟩) ?_
 refine oas ?_
 refine nq ?_
 refine W.seq ?_
 refine sr ?_
 refine omv ?_
 refine ov (V_eqlP (by kernel_rfl) rfl rfl) ?_
 refine nq ?_
 refine W.cond_false rfl rfl ?_
 refine W.skip ?_
 refine WQ.then ?_
 refine sr ?_
 refine omv ?_
 refine omv ?_
 refine ov vnil ?_
 refine ov (vfa0 132 1) ?_
 refine ost ?_
 refine nx ?_
 refine oas ?_
 refine nq ?_
 refine W.ret ?_
 refine WQ.ret1 Try.results60 (.tmp rfl) ?_
 intro w' hp; exact ⟨⟨link, idn, sig, b3, hs3, is, t, nt, many, p, bx, tk, o, ms, oA, on, oc, ks, oL⟩, ⟨⟨al, alb, ai, as_, ab, ams, ao, am, abk, aon, aoc, akl, ak8, aonce⟩, rfl, rfl⟩, rfl, hp.cov cov⟩

theorem rsus20_none (root : List Int) (hrl : root.length = 32) (ticks : Int) (b : Nat) (ps : List (Option Nat)) (h8 : ps.length = 8) (n : Int) (is : Bool) (hq : ofP ps n = none) (w : World) (hR : AtW w b (rlS root ticks ps)) :
    Calls Try.prog 60 [.pointer (some ⟨b, 0, none⟩), .int .i64 n, .bool is].toArray w fun e w' => e = .returned (.int .i64 7) ∧ HP w w' [] [] := by
 refine calls_of_W Try.func60 rfl Try.ntmps60 rfl rfl (HP.refl w []) ?_
 refine sr ?_
 refine oas ?_
 refine nx ?_
 refine omv ?_
 refine omv ?_
 refine cp (v := .pointer none) rfl (fun w hp => (rof20_calls root hrl ticks b ps h8 n w hat).mono fun e w' ⟨h1, h2⟩ => ⟨by rw [h1, hq]; rfl, h2⟩) ?_
 refine oas ?_
 refine nq ?_
 refine W.seq ?_
 refine sr ?_
 refine omv ?_
 refine ov (V_eqlP (by kernel_rfl) rfl rfl) ?_
 refine nq ?_
 refine W.cond_true rfl rfl ?_
 refine sr ?_
 refine oas ?_
 refine nq ?_
 refine W.ret ?_
 refine WQ.then_ret ?_
 refine WQ.ret1 Try.results60 (.tmp rfl) ?_
 intro w' hp; exact ⟨rfl, hp.forget⟩

end Go.Proofs.Ytmeckbjinmgbbaa