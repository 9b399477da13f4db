/- A relay: one let be. -/
import Derived.Test.YtmeckbjinmgbbaaAcc
set_option linter.unusedVariables false
set_option linter.unusedSimpArgs false

namespace Go.Proofs.Ytmeckbjinmgbbaa
open Go.X
theorem relS_set {R k : Nat} {ps : List (Option Nat)} {q : Option Nat} (hk : k < ps.length) : flat (relS R (ps.set k q)) = (flat (relS R ps)).set (1 + k) (optV q) := by
  unfold relS flat
  simp only [List.flatMap_cons, List.flatMap_nil, List.append_nil]
  rw [List.set_append_right _ _ (by simp), List.map_set]; simp
theorem arr_set {v0 v : Value} {n k : Nat} {ps : List Value} : flat [(1, [v0]), (n, ps.set k v)] = (flat [(1, [v0]), (n, ps)]).set (1 + k) v := by
  unfold flat
  simp only [List.flatMap_cons, List.flatMap_nil, List.append_nil]
  rw [List.set_append_right _ _ (by simp)]; simp
section
variable {c : Cx} {Q : Post} {S : Slots} {L L' Lr : List (Nat × Blk)} {ops : Array Oper} {ty T : TypeId} {pos : String} {af : Array Edge} {x y : Operand} {i : Nat} {p : Plan} {g : Option (Nat × Bool)}
theorem dstRP {R b k o : Nat} {ps : List (Option Nat)} {q : Option Nat} {t : TypeId} (ho : ops[i]? = some ⟨none, .store T x y, ty, pos, af, g⟩) (k' : Nat) (hk' : k' = k) (K : WD c ops Q Lr p S L') (hk : k < ps.length) (hg : Gd ops S g := by exact trivial) (hx : ev S x = some (.pointer (some ⟨b, o, none⟩)) := by exact rfl) (hq : o = 1 + k := by rfl) (hy : ev S y = some (optV q) := by exact rfl)
    (hu : Upd b (.cells (relS R (ps.set k q)) t) L (.cells (relS R ps) t) L' := by exact upd) (ht : szB c.P T 1 = true := by kernel_rfl) (hsl : Lr.Sublist L := by exact subl) (hmm : ∀ p ∈ Lr, p ∈ L' := by simp) : WO c ops Q Lr i p S L :=
  WO.effG ho hg (d := none) rfl hsl (E_storeF ht hx hy rfl hu (by subst hq; simp [relS, flat]; omega) (fun hf => by
    obtain ⟨h1, h2⟩ := hf.cons; obtain ⟨h3, _⟩ := h2.cons
    exact Fit.mk rfl (Fit.mk (by simpa using h3) Fit.nil)) (by subst hq; exact relS_set hk)) fun v M ⟨_, hM⟩ => by subst hM; exact ⟨hmm, K⟩
end
theorem once_srw {w : World} {b n c : Nat} {ks : List (List Int)} {rs : List Value} {t : TypeId} (h : (Blk.cells [((0 + n) * 32, [] ++ ks.flatMap (iv .u8)), ((c - (0 + n)) * 32, rs)] t).Is w.heap[b]?) (hl : (ks.flatMap (iv .u8)).length = ks.length * 32) (hn : n = ks.length) : SrW w 32 (some ⟨b, 0, none⟩) (0 + n) (ks.flatMap (iv .u8)) := by
  have hA : AtW w b [((0 + n) * 32, ks.flatMap (iv .u8)), ((c - (0 + n)) * 32, rs)] := ⟨h.1, _, _, h.2⟩
  exact (hA.sown once_one).mul
theorem okB510 : OkB 5 10 0 5 := by constructor <;> decide
theorem b510 : bmayB 5 10 := by unfold bmayB; decide

theorem reg20_calls (R b : Nat) (ps : List (Option Nat)) (h8 : ps.length = 8) (n : Int) (link idn sig b3 : List Int) (hs3 : Bool) (A : Option Addr) (len cap : Nat) (ks : List (List Int)) (hl : link.length = 32) (hlb : bytes link) (hil : idn.length = 32) (hsl : sig.length = 32) (hbl : b3.length = 32) (hn : 0 ≤ n ∧ n < 8) (hq : ps[n.toNat]? = some none) (hlen : len = ks.length) (hcap : len ≤ cap) (hk8 : len ≤ 8) (hkl : ∀ k ∈ ks, k.length = 32) (w : World) (hp0 : HP w w (([(b, .cells (relS R ps) 110)] : List (Nat × Blk)).map (·.1)) [(b, .cells (relS R ps) 110)]) (hs : ∀ w' M, HP w w' (([(b, .cells (relS R ps) 110)] : List (Nat × Blk)).map (·.1)) M → SrW w' 32 A len (ks.flatMap (iv .u8))) :
    Calls Try.prog 18 [.pointer (some ⟨b, 0, none⟩), .int .i64 n, AG [(32, iv .u8 link)], AG (bunV idn sig b3 hs3), .slice A len cap].toArray w fun e w' => ∃ a : PAcc, (POK a ∧ a.abs = AAcc.new link idn sig ks) ∧ e = .returned (.int .i64 0) ∧ HP w w' (([(b, .cells (relS R ps) 110)] : List (Nat × Blk)).map (·.1)) ((b, .cells (relS R (ps.set n.toNat (some a.p))) 110) :: accP a) := by
 unfold bunV
 refine calls_of_W Try.func18 rfl Try.ntmps18 rfl rfl hp0 ?_
 refine sr ?_
 refine obxa (fun b7 => ?_)
 refine obxa (fun b8 => ?_)
 refine oas ?_
 refine nq ?_
 refine W.seq ?_
 refine W.block ?_
 refine sr ?_
 refine omv ?_
 refine cp rfl (fun w hp => may20_calls n w) ?_
 refine ov vnot ?_
 refine omv ?_
 refine oy rfl (not_t (decide_eq_true hn)) ?_
 refine omv ?_
 refine oy rfl (not_t (decide_eq_true hn)) ?_
 refine ov vlenS ?_
 refine oy rfl (not_t (decide_eq_true hn)) ?_
 refine ov (v2 V_gtr) ?_
 refine ov (V_pick_f rfl (not_t (decide_eq_true hn)) rfl) ?_
 refine oas ?_
 refine nq ?_
 refine W.cond_false rfl (decide_eq_false (by omega)) ?_
 refine sr ?_
 refine omv ?_
 refine omv ?_
 refine ov vnil ?_
 refine ov (vfa0 1 8) ?_
 first | refine ov (viAP 8) ?_ | refine ov (viAPZ 8) ?_
 refine ov (vldRP n.toNat hq) ?_
 refine ov (V_neqP (by kernel_rfl) rfl rfl) ?_
 refine oas ?_
 refine nq ?_
 refine W.cond_false rfl rfl ?_
 refine W.skip ?_
 refine WQ.block_normal ?_
 refine WQ.then ?_
 refine sr ?_
 refine cg rfl (fun w hp => new_calls 5 10 w b510) (fun b31 h31 => ?_)
 refine omv ?_
 refine ov vex ?_
 refine ov vex ?_
 refine oas ?_
 refine oas ?_
 refine nq ?_
 refine W.seq ?_
 refine sr ?_
 refine omv ?_
 refine ov (v2 V_neq) ?_
 refine nq ?_
 refine W.cond_false rfl (by decide) ?_
 refine W.skip ?_
 refine WQ.then ?_
 refine sr ?_
 refine ov (vbI 32 .u8 0 []) ?_
 refine ov (vfa0 64 32) ?_
 refine osta 32 ?_
 refine ov (vfa0 96 1) ?_
 refine ost ?_
 refine nq ?_
 refine W.seq ?_
 refine dr (.q 0 (.q 1 (.q 2 (.q 3 (.q 5 (.q 8 (.q 11 (.q 12 (.l 4 (.l 6 (.l 7 (.q 9 (.l 10 (.q 13 (.l 14 (.done)))))))))))))))) [(b8, _), (b7, _)] ?_
 refine dq rfl (V_move rfl) ?_
 refine dq rfl (V_move rfl) ?_
 refine dq rfl (vlda 32) ?_
 refine dq rfl (vlda 97) ?_
 refine dq rfl (V_move rfl) ?_
 refine dq rfl (V_move rfl) ?_
 refine dq rfl vnil ?_
 refine dq rfl (vfa0 1 8) ?_
 refine WD.l ?_
 refine dbs0 rfl 23 32 32 (fun b44 => ?_)
 refine WD.l ?_
 refine dapM rfl 23 32 32 (fun b46 c46 r46 h46 => ?_) (fun w hp => hs w _ hp)
 refine WD.l ?_
 refine dcg rfl rfl (fun w hp => new19_calls w) (fun b47 h47 => ?_)
 refine dq rfl (V_build (by kernel_rfl) (zi (zs := [(32, List.replicate 32 (.int .u8 0)), (32, List.replicate 32 (.int .u8 0)), (32, List.replicate 32 (.int .u8 0)), (32, List.replicate 32 (.int .u8 0)), (1, [.bool false]), (1, [.slice none 0 0]), (1, [.pointer none]), (1, [.pointer none]), (1, [.bool false])])) (.agg (k := 0) (n := 32) rfl fit fln (by kernel_rfl) rfl (.agg (k := 32) (n := 97) rfl fit fln (by kernel_rfl) rfl (.one (k := 129) rfl rfl (by kernel_rfl) rfl (.one (k := 130) rfl rfl (by kernel_rfl) rfl (.one (k := 131) rfl rfl (by kernel_rfl) rfl (.nil _))))))) ?_
 refine WD.l ?_
 refine dbxa rfl (fun b50 => ?_)
 first | refine dq rfl (viAP 8) ?_ | refine dq rfl (viAPZ 8) ?_
 refine WD.l ?_
 refine dstRP rfl n.toNat rfl ?_ (by omega) (R := R) (ps := ps) (q := some b50)
 refine WD.done ?_
 refine WQ.then ?_
 refine sr ?_
 refine oas ?_
 refine nq ?_
 refine W.ret ?_
 refine WQ.ret1 Try.results18 (.tmp rfl) ?_
 intro w' hp; refine ⟨⟨link, idn, sig, List.replicate 32 0, false, false, 0, 5, 0, b50, b47, b31, none, [], some ⟨b46, 0, none⟩, 0 + len, c46, ks, [(b46, .cells [((0 + len) * 32, [] ++ ks.flatMap (iv .u8)), ((c46 - (0 + len)) * 32, r46)] 23)]⟩, ⟨⟨?_, rfl, rfl⟩, rfl⟩, rfl, ?_⟩
 · exact ⟨hl, hlb, hil, hsl, List.length_replicate, ⟨fun m hm => (List.not_mem_nil hm).elim, Nat.zero_le _⟩, rfl, Int.le_refl _, okB510, by dsimp only; omega, h46, hkl, by dsimp only; omega, fun w hw => by
     have h2 := hw _ List.mem_cons_self
     exact once_srw h2 (once_len hkl) hlen⟩
 · simp only [accP, hid0]; exact hp.cov cov

theorem reg20_bad (R b : Nat) (ps : List (Option Nat)) (h8 : ps.length = 8) (n : Int) (link idn sig b3 : List Int) (hs3 : Bool) (A : Option Addr) (len cap : Nat) (ks : List (List Int)) (hl : link.length = 32) (hlb : bytes link) (hil : idn.length = 32) (hsl : sig.length = 32) (hbl : b3.length = 32) (hbad : ¬ (0 ≤ n ∧ n < 8) ∨ 8 < len) (w : World) :
    Calls Try.prog 18 [.pointer (some ⟨b, 0, none⟩), .int .i64 n, AG [(32, iv .u8 link)], AG (bunV idn sig b3 hs3), .slice A len cap].toArray w fun e w' => e = .returned (.int .i64 1) ∧ HP w w' [] [] := by
 unfold bunV
 refine calls_of_W Try.func18 rfl Try.ntmps18 rfl rfl (HP.refl w []) ?_
 refine sr ?_
 refine obxa (fun b7 => ?_)
 refine obxa (fun b8 => ?_)
 refine oas ?_
 refine nq ?_
 refine W.seq ?_
 refine W.block ?_
 refine W.seq ?_
 by_cases hn : 0 ≤ n ∧ n < 8
 · refine W.region ?_
   refine omv ?_
   refine cp rfl (fun w hp => may20_calls n w) ?_
   refine ov vnot ?_
   refine omv ?_
   refine oy rfl (not_t (decide_eq_true hn)) ?_
   refine omv ?_
   refine oy rfl (not_t (decide_eq_true hn)) ?_
   refine ov vlenS ?_
   refine oy rfl (not_t (decide_eq_true hn)) ?_
   refine ov (v2 V_gtr) ?_
   refine ov (V_pick_f rfl (not_t (decide_eq_true hn)) rfl) ?_
   refine oas ?_
   refine nq ?_
   refine W.cond_true rfl (decide_eq_true (by omega)) ?_
   refine sr ?_
   refine oas ?_
   refine nq ?_
   refine W.ret ?_
   refine WQ.block_ret ?_
   refine WQ.then_ret ?_
   refine WQ.ret1 Try.results18 (.tmp rfl) ?_
   intro w' hp; exact ⟨by first | rfl | (simp; done) | (simp [*]; done) | simp_all, hp.forget⟩
 · refine W.region ?_
   refine omv ?_
   refine cp rfl (fun w hp => may20_calls n w) ?_
   refine ov vnot ?_
   refine omv ?_
   refine on rfl (not_f (decide_eq_false hn)) ?_
   refine on rfl (not_f (decide_eq_false hn)) ?_
   refine on rfl (not_f (decide_eq_false hn)) ?_
   refine ov (V_pick_t rfl (not_f (decide_eq_false hn)) rfl) ?_
   refine oas ?_
   refine nq ?_
   refine W.cond_true rfl rfl ?_
   refine sr ?_
   refine oas ?_
   refine nq ?_
   refine W.ret ?_
   refine WQ.block_ret ?_
   refine WQ.then_ret ?_
   refine WQ.ret1 Try.results18 (.tmp rfl) ?_
   intro w' hp; exact ⟨by first | rfl | (simp; done) | (simp [*]; done) | simp_all, hp.forget⟩

theorem reg20_twice (R b : Nat) (ps : List (Option Nat)) (h8 : ps.length = 8) (n : Int) (link idn sig b3 : List Int) (hs3 : Bool) (A : Option Addr) (len cap : Nat) (ks : List (List Int)) (hl : link.length = 32) (hlb : bytes link) (hil : idn.length = 32) (hsl : sig.length = 32) (hbl : b3.length = 32) (q : Nat) (hn : 0 ≤ n ∧ n < 8) (hq : ps[n.toNat]? = some (some q)) (hk8 : len ≤ 8) (w : World) (hR : AtW w b (relS R ps)) :
    Calls Try.prog 18 [.pointer (some ⟨b, 0, none⟩), .int .i64 n, AG [(32, iv .u8 link)], AG (bunV idn sig b3 hs3), .slice A len cap].toArray w fun e w' => e = .returned (.int .i64 9) ∧ HP w w' [] [] := by
 unfold bunV
 refine calls_of_W Try.func18 rfl Try.ntmps18 rfl rfl (HP.refl w []) ?_
 refine sr ?_
 refine obxa (fun b7 => ?_)
 refine obxa (fun b8 => ?_)
 refine oas ?_
 refine nq ?_
 refine W.seq ?_
 refine W.block ?_
 refine sr ?_
 refine omv ?_
 refine cp rfl (fun w hp => may20_calls n w) ?_
 refine ov vnot ?_
 refine omv ?_
 refine oy rfl (not_t (decide_eq_true hn)) ?_
 refine omv ?_
 refine oy rfl (not_t (decide_eq_true hn)) ?_
 refine ov vlenS ?_
 refine oy rfl (not_t (decide_eq_true hn)) ?_
 refine ov (v2 V_gtr) ?_
 refine ov (V_pick_f rfl (not_t (decide_eq_true hn)) rfl) ?_
 refine oas ?_
 refine nq ?_
 refine W.cond_false rfl (decide_eq_false (by omega)) ?_
 refine sr ?_
 refine omv ?_
 refine omv ?_
 refine ov vnil ?_
 refine ov (vfa0 1 8) ?_
 first | refine ov (viAP 8) ?_ | refine ov (viAPZ 8) ?_
 refine ov (vldRP n.toNat hq) ?_
 refine ov (V_neqP (by kernel_rfl) rfl rfl) ?_
 refine oas ?_
 refine nq ?_
 refine W.cond_true rfl rfl ?_
 refine sr ?_
 refine oas ?_
 refine nq ?_
 refine W.ret ?_
 refine WQ.block_ret ?_
 refine WQ.then_ret ?_
 refine WQ.ret1 Try.results18 (.tmp rfl) ?_
 intro w' hp; exact ⟨by first | rfl | (simp; done) | (simp [*]; done) | simp_all, hp.forget⟩

end Go.Proofs.Ytmeckbjinmgbbaa