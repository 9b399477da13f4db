/- BLAKE2s: how four words are mixed, by package blake and by the document's answer. -/
import Derived.Test.YtmeckbjinmgbbaaGreatOctets
set_option linter.unusedVariables false
set_option linter.unusedSimpArgs false

namespace Go.Proofs.YtmeckbjinmgbbaaGreat
open Go.X
/-- TURN. -/
def rotF (x n : Int) : Int := orI .u32 (shrI .u32 x n) (shlI .u32 x (32 - n))
theorem orI_comm (k : IntKind) (a b : Int) : orI k a b = orI k b a := by unfold orI; rw [BitVec.or_comm]
def m1 (l : List Int) (a b : Nat) (x : Int) : List Int := l.set a (IntKind.u32.wrap (l.getD a 0 + l.getD b 0 + x))
def m2 (l : List Int) (d a : Nat) (n : Int) : List Int := l.set d (rotF (xorI .u32 (l.getD d 0) (l.getD a 0)) n)
def m3 (l : List Int) (c d : Nat) : List Int := l.set c (IntKind.u32.wrap (l.getD c 0 + l.getD d 0))
/-- MIX. -/
def mixF (l : List Int) (a b c d : Nat) (x y : Int) : List Int :=
  m2 (m3 (m2 (m1 (m2 (m3 (m2 (m1 l a b x) d a 16) c d) b c 12) a b y) d a 8) c d) b c 7
theorem m1_len {l : List Int} {a b : Nat} {x : Int} : (m1 l a b x).length = l.length := by simp [m1]
theorem m2_len {l : List Int} {a b : Nat} {x : Int} : (m2 l a b x).length = l.length := by simp [m2]
theorem m3_len {l : List Int} {a b : Nat} : (m3 l a b).length = l.length := by simp [m3]
theorem mixF_len {l : List Int} {a b c d : Nat} {x y : Int} : (mixF l a b c d x y).length = l.length := by simp [mixF, m1_len, m2_len, m3_len]
theorem m1_l {l : List Int} {a b : Nat} {x : Int} : l.set a (IntKind.u32.wrap (l.getD a 0 + IntKind.u32.wrap (l.getD b 0 + x))) = m1 l a b x := by
  unfold m1; congr 1; rw [IntKind.wrap_u32, IntKind.wrap_u32, IntKind.wrap_u32]; omega
theorem m1_r {l : List Int} {a b : Nat} {x : Int} : l.set a (IntKind.u32.wrap (IntKind.u32.wrap (l.getD a 0 + l.getD b 0) + x)) = m1 l a b x := by
  unfold m1; congr 1; rw [IntKind.wrap_u32, IntKind.wrap_u32, IntKind.wrap_u32]; omega
theorem m2_f {l : List Int} {a d : Nat} {n : Int} : l.set d (rotF (xorI .u32 (l.getD d 0) (l.getD a 0)) n) = m2 l d a n := rfl
theorem m3_f {l : List Int} {c d : Nat} : l.set c (IntKind.u32.wrap (l.getD c 0 + l.getD d 0)) = m3 l c d := rfl

theorem rot_calls (x k n : Int) (w : World) (hk : andI .u64 (IntKind.u64.wrap k) 31 = 32 - n) (h0 : 0 ≤ n) (h1 : n ≤ 32) :
    Calls Tryz.prog 158 [.int .u32 x, .int .i64 k].toArray w fun e w' => e = .returned (.int .u32 (rotF x n)) ∧ HP w w' [] [] := by
  refine calls_of_W Tryz.func158 rfl Tryz.ntmps158 rfl rfl (HP.refl w []) ?_
  refine W.seq ?_
  refine W.region ?_
  
  refine WL.as rfl rfl ?_
  refine WL.nil ?_
  refine WQ.then ?_
  refine W.seq ?_
  refine W.region ?_
  refine WL.mv rfl rfl ?_
  refine WL.val rfl (V_conv (k' := .u64) rfl (by kernel_rfl) (by kernel_rfl)) ?_
  refine WL.val rfl (V_and rfl rfl) ?_
  refine WL.as rfl rfl ?_
  refine WL.nil ?_
  refine WQ.then ?_
  refine W.seq ?_
  refine W.region ?_
  
  refine WL.mv rfl rfl ?_
  refine WL.mv rfl rfl ?_
  rw [hk]
  refine WL.val rfl (V_shl rfl rfl (by omega)) ?_
  refine WL.mv rfl rfl ?_
  refine WL.mv rfl rfl ?_
  refine WL.val rfl (V_sub rfl rfl) ?_
  rw [Go.IntWalk.u64_in (32 - (32 - n)) (by omega), show 32 - (32 - n) = n from by omega]
  refine WL.val rfl (V_shr rfl rfl (by omega)) ?_
  refine WL.val rfl (V_or rfl rfl) ?_
  refine WL.as rfl rfl ?_
  refine WL.nil ?_
  refine WQ.then ?_
  refine W.ret ?_
  refine WQ.ret1 Tryz.results158 (.tmp rfl) ?_
  intro w' hp; rw [orI_comm]; exact ⟨rfl, hp.forget⟩

theorem rturned_calls (x n : Int) (w : World) (h0 : 0 ≤ n) (h1 : n ≤ 32) :
    Calls Tryz.prog 168 [.int .u32 x, .int .i64 n].toArray w fun e w' => e = .returned (.int .u32 (rotF x n)) ∧ HP w w' [] [] := by
  refine calls_of_W Tryz.func168 rfl Tryz.ntmps168 rfl rfl (HP.refl w []) ?_
  refine W.seq ?_
  refine W.region ?_
  refine WL.as rfl rfl ?_
  refine WL.nil ?_
  refine WQ.then ?_
  refine W.seq ?_
  refine W.drawn (.q 0 (.q 1 (.q 2 (.q 3 (.q 4 (.q 5 (.q 6 (.q 7 (.q 8 (.done)))))))))) [] (by kernel_rfl) (fun _ a d _ _ h => by cases d <;> exact h) (by kernel_rfl) (by repeat (first | exact List.Sublist.refl _ | exact List.nil_sublist _ | refine List.Sublist.cons_cons _ ?_ | refine List.Sublist.cons _ ?_)) ?_
  refine WD.q rfl rfl (V_move rfl) ?_
  refine WD.q rfl rfl (V_move rfl) ?_
  refine WD.q rfl rfl (V_shr rfl rfl (by omega)) ?_
  refine WD.q rfl rfl (V_move rfl) ?_
  refine WD.q rfl rfl (V_move rfl) ?_
  first | refine WD.q rfl rfl (V_subN rfl rfl (by omega)) ?_ | refine WD.q rfl rfl (V_sub rfl rfl) ?_
  refine WD.q rfl rfl (V_shl rfl rfl (by omega)) ?_
  refine WD.q rfl rfl (V_or rfl rfl) ?_
  refine WD.q rfl rfl (V_assign rfl) ?_
  refine WD.done ?_
  refine WQ.then ?_
  refine W.ret ?_
  refine WQ.ret1 Tryz.results168 (.tmp rfl) ?_
  intro w' hp; exact ⟨rfl, hp.forget⟩

set_option maxHeartbeats 1000000 in
theorem mix_calls (bv a b c d : Nat) (l : List Int) (x y : Int) (T : TypeId) (w : World) (hv : (Blk.cells [(16, iv .u32 l)] T).Is w.heap[bv]?) (ha : a < l.length) (hb : b < l.length) (hc : c < l.length) (hd : d < l.length) :
    Calls Tryz.prog 142 [.pointer (some ⟨bv, a, none⟩), .pointer (some ⟨bv, b, none⟩), .pointer (some ⟨bv, c, none⟩), .pointer (some ⟨bv, d, none⟩), .int .u32 x, .int .u32 y].toArray w fun e w' => e = .returned (.tuple #[]) ∧ HP w w' [bv] [(bv, .cells [(16, iv .u32 (mixF l a b c d x y))] T)] := by
  refine calls_of_W Tryz.func142 rfl Tryz.ntmps142 rfl rfl (HP.start (O := [bv]) (L := [(bv, .cells [(16, iv .u32 l)] T)]) (by simpa using hv) (by simp) (by simp)) ?_
  refine W.seq ?_
  apply W.join
  · intro hj
    refine W.drawn (.q 0 (.q 1 (.q 3 (.q 4 (.q 6 (.l2 2 (.l 5 (.q 7 (.q 8 (.q 9 (.l 10 (.done)))))) 5 (.q 7 (.l 2 (.q 8 (.q 9 (.l 10 (.done)))))))))))) [] (by kernel_rfl) (fun _ a d _ _ h => by cases d <;> exact h) (by kernel_rfl) (by repeat (first | exact List.Sublist.refl _ | exact List.nil_sublist _ | refine List.Sublist.cons_cons _ ?_ | refine List.Sublist.cons _ ?_)) ?_
    refine WD.q rfl rfl (V_move rfl) ?_
    refine WD.q rfl rfl (V_nil rfl) ?_
    refine WD.q rfl rfl (V_move rfl) ?_
    refine WD.q rfl rfl (V_nil rfl) ?_
    refine WD.q rfl rfl (V_move rfl) ?_
    refine WD.l2 ?_ ?_
    ·
      refine WO.val rfl rfl (by repeat (first | exact List.Sublist.refl _ | exact List.nil_sublist _ | refine List.Sublist.cons_cons _ ?_ | refine List.Sublist.cons _ ?_)) (V_loadIv a (by kernel_rfl) rfl (by repeat (first | exact At.head | exact AtW.at ‹_› (by simp) | apply At.tail)) rfl (by (try simp only [m1_len, m2_len, m3_len]); omega)) ?_
      refine WD.l ?_
      refine WO.val rfl rfl (by repeat (first | exact List.Sublist.refl _ | exact List.nil_sublist _ | refine List.Sublist.cons_cons _ ?_ | refine List.Sublist.cons _ ?_)) (V_loadIv b (by kernel_rfl) rfl (by repeat (first | exact At.head | exact AtW.at ‹_› (by simp) | apply At.tail)) rfl (by (try simp only [m1_len, m2_len, m3_len]); omega)) ?_
      refine WD.q rfl rfl (V_add rfl rfl) ?_
      refine WD.q rfl rfl (V_add rfl rfl) ?_
      refine WD.q rfl rfl (V_nil rfl) ?_
      refine WD.l ?_
      refine WO.eff rfl rfl (by repeat (first | exact List.Sublist.refl _ | exact List.nil_sublist _ | refine List.Sublist.cons_cons _ ?_ | refine List.Sublist.cons _ ?_)) (E_storeIv a (by kernel_rfl) rfl rfl (by repeat (first | exact Upd.here _ _ | apply Upd.there)) rfl (by (try simp only [m1_len, m2_len, m3_len]); omega)) ?_; rintro _ _ ⟨rfl, rfl⟩; refine ⟨by simp, ?_⟩; rw [m1_l]
      refine WD.done ?_
      exact WQ.pick (S' := [(0, _), (1, _), (2, _), (3, _), (5, _)]) [0, 1, 2, 3, 5] rfl hj
    ·
      refine WO.val rfl rfl (by repeat (first | exact List.Sublist.refl _ | exact List.nil_sublist _ | refine List.Sublist.cons_cons _ ?_ | refine List.Sublist.cons _ ?_)) (V_loadIv b (by kernel_rfl) rfl (by repeat (first | exact At.head | exact AtW.at ‹_› (by simp) | apply At.tail)) rfl (by (try simp only [m1_len, m2_len, m3_len]); omega)) ?_
      refine WD.q rfl rfl (V_add rfl rfl) ?_
      refine WD.l ?_
      refine WO.val rfl rfl (by repeat (first | exact List.Sublist.refl _ | exact List.nil_sublist _ | refine List.Sublist.cons_cons _ ?_ | refine List.Sublist.cons _ ?_)) (V_loadIv a (by kernel_rfl) rfl (by repeat (first | exact At.head | exact AtW.at ‹_› (by simp) | apply At.tail)) rfl (by (try simp only [m1_len, m2_len, m3_len]); omega)) ?_
      refine WD.q rfl rfl (V_add rfl rfl) ?_
      refine WD.q rfl rfl (V_nil rfl) ?_
      refine WD.l ?_
      refine WO.eff rfl rfl (by repeat (first | exact List.Sublist.refl _ | exact List.nil_sublist _ | refine List.Sublist.cons_cons _ ?_ | refine List.Sublist.cons _ ?_)) (E_storeIv a (by kernel_rfl) rfl rfl (by repeat (first | exact Upd.here _ _ | apply Upd.there)) rfl (by (try simp only [m1_len, m2_len, m3_len]); omega)) ?_; rintro _ _ ⟨rfl, rfl⟩; refine ⟨by simp, ?_⟩; rw [m1_l]
      refine WD.done ?_
      exact WQ.pick (S' := [(0, _), (1, _), (2, _), (3, _), (5, _)]) [0, 1, 2, 3, 5] rfl hj
  refine WQ.then ?_
  refine W.seq ?_
  apply W.join
  · intro hj
    refine W.drawn (.q 0 (.q 1 (.q 2 (.q 4 (.q 5 (.l2 3 (.l 6 (.q 7 (.l 8 (.q 9 (.l 10 (.done)))))) 6 (.l 3 (.q 7 (.l 8 (.q 9 (.l 10 (.done)))))))))))) [] (by kernel_rfl) (fun _ a d _ _ h => by cases d <;> exact h) (by kernel_rfl) (by repeat (first | exact List.Sublist.refl _ | exact List.nil_sublist _ | refine List.Sublist.cons_cons _ ?_ | refine List.Sublist.cons _ ?_)) ?_
    refine WD.q rfl rfl (V_move rfl) ?_
    refine WD.q rfl rfl (V_move rfl) ?_
    refine WD.q rfl rfl (V_nil rfl) ?_
    refine WD.q rfl rfl (V_move rfl) ?_
    refine WD.q rfl rfl (V_nil rfl) ?_
    refine WD.l2 ?_ ?_
    ·
      refine WO.val rfl rfl (by repeat (first | exact List.Sublist.refl _ | exact List.nil_sublist _ | refine List.Sublist.cons_cons _ ?_ | refine List.Sublist.cons _ ?_)) (V_loadIv d (by kernel_rfl) rfl (by repeat (first | exact At.head | exact AtW.at ‹_› (by simp) | apply At.tail)) rfl (by (try simp only [m1_len, m2_len, m3_len]); omega)) ?_
      refine WD.l ?_
      refine WO.val rfl rfl (by repeat (first | exact List.Sublist.refl _ | exact List.nil_sublist _ | refine List.Sublist.cons_cons _ ?_ | refine List.Sublist.cons _ ?_)) (V_loadIv a (by kernel_rfl) rfl (by repeat (first | exact At.head | exact AtW.at ‹_› (by simp) | apply At.tail)) rfl (by (try simp only [m1_len, m2_len, m3_len]); omega)) ?_
      refine WD.q rfl rfl (V_xor rfl rfl) ?_
      refine WD.l ?_
      refine WO.cal rfl rfl (by repeat (first | exact List.Sublist.refl _ | exact List.nil_sublist _ | refine List.Sublist.cons_cons _ ?_ | refine List.Sublist.cons _ ?_)) (C_pure _ (by kernel_rfl) rfl (fun w hp => rot_calls _ _ 16 w (by decide) (by decide) (by decide))) ?_; rintro _ _ ⟨rfl, rfl⟩; refine ⟨by simp, ?_⟩
      refine WD.q rfl rfl (V_nil rfl) ?_
      refine WD.l ?_
      refine WO.eff rfl rfl (by repeat (first | exact List.Sublist.refl _ | exact List.nil_sublist _ | refine List.Sublist.cons_cons _ ?_ | refine List.Sublist.cons _ ?_)) (E_storeIv d (by kernel_rfl) rfl rfl (by repeat (first | exact Upd.here _ _ | apply Upd.there)) rfl (by (try simp only [m1_len, m2_len, m3_len]); omega)) ?_; rintro _ _ ⟨rfl, rfl⟩; refine ⟨by simp, ?_⟩; rw [m2_f]
      refine WD.done ?_
      exact WQ.pick (S' := [(0, _), (1, _), (2, _), (3, _), (5, _)]) [0, 1, 2, 3, 5] rfl hj
    ·
      refine WO.val rfl rfl (by repeat (first | exact List.Sublist.refl _ | exact List.nil_sublist _ | refine List.Sublist.cons_cons _ ?_ | refine List.Sublist.cons _ ?_)) (V_loadIv a (by kernel_rfl) rfl (by repeat (first | exact At.head | exact AtW.at ‹_› (by simp) | apply At.tail)) rfl (by (try simp only [m1_len, m2_len, m3_len]); omega)) ?_
      refine WD.l ?_
      refine WO.val rfl rfl (by repeat (first | exact List.Sublist.refl _ | exact List.nil_sublist _ | refine List.Sublist.cons_cons _ ?_ | refine List.Sublist.cons _ ?_)) (V_loadIv d (by kernel_rfl) rfl (by repeat (first | exact At.head | exact AtW.at ‹_› (by simp) | apply At.tail)) rfl (by (try simp only [m1_len, m2_len, m3_len]); omega)) ?_
      refine WD.q rfl rfl (V_xor rfl rfl) ?_
      refine WD.l ?_
      refine WO.cal rfl rfl (by repeat (first | exact List.Sublist.refl _ | exact List.nil_sublist _ | refine List.Sublist.cons_cons _ ?_ | refine List.Sublist.cons _ ?_)) (C_pure _ (by kernel_rfl) rfl (fun w hp => rot_calls _ _ 16 w (by decide) (by decide) (by decide))) ?_; rintro _ _ ⟨rfl, rfl⟩; refine ⟨by simp, ?_⟩
      refine WD.q rfl rfl (V_nil rfl) ?_
      refine WD.l ?_
      refine WO.eff rfl rfl (by repeat (first | exact List.Sublist.refl _ | exact List.nil_sublist _ | refine List.Sublist.cons_cons _ ?_ | refine List.Sublist.cons _ ?_)) (E_storeIv d (by kernel_rfl) rfl rfl (by repeat (first | exact Upd.here _ _ | apply Upd.there)) rfl (by (try simp only [m1_len, m2_len, m3_len]); omega)) ?_; rintro _ _ ⟨rfl, rfl⟩; refine ⟨by simp, ?_⟩; rw [m2_f]
      refine WD.done ?_
      exact WQ.pick (S' := [(0, _), (1, _), (2, _), (3, _), (5, _)]) [0, 1, 2, 3, 5] rfl hj
  refine WQ.then ?_
  refine W.seq ?_
  apply W.join
  · intro hj
    refine W.drawn (.q 0 (.q 1 (.q 3 (.q 4 (.l2 2 (.l 5 (.q 6 (.q 7 (.l 8 (.done))))) 5 (.l 2 (.q 6 (.q 7 (.l 8 (.done)))))))))) [] (by kernel_rfl) (fun _ a d _ _ h => by cases d <;> exact h) (by kernel_rfl) (by repeat (first | exact List.Sublist.refl _ | exact List.nil_sublist _ | refine List.Sublist.cons_cons _ ?_ | refine List.Sublist.cons _ ?_)) ?_
    refine WD.q rfl rfl (V_move rfl) ?_
    refine WD.q rfl rfl (V_nil rfl) ?_
    refine WD.q rfl rfl (V_move rfl) ?_
    refine WD.q rfl rfl (V_nil rfl) ?_
    refine WD.l2 ?_ ?_
    ·
      refine WO.val rfl rfl (by repeat (first | exact List.Sublist.refl _ | exact List.nil_sublist _ | refine List.Sublist.cons_cons _ ?_ | refine List.Sublist.cons _ ?_)) (V_loadIv c (by kernel_rfl) rfl (by repeat (first | exact At.head | exact AtW.at ‹_› (by simp) | apply At.tail)) rfl (by (try simp only [m1_len, m2_len, m3_len]); omega)) ?_
      refine WD.l ?_
      refine WO.val rfl rfl (by repeat (first | exact List.Sublist.refl _ | exact List.nil_sublist _ | refine List.Sublist.cons_cons _ ?_ | refine List.Sublist.cons _ ?_)) (V_loadIv d (by kernel_rfl) rfl (by repeat (first | exact At.head | exact AtW.at ‹_› (by simp) | apply At.tail)) rfl (by (try simp only [m1_len, m2_len, m3_len]); omega)) ?_
      refine WD.q rfl rfl (V_add rfl rfl) ?_
      refine WD.q rfl rfl (V_nil rfl) ?_
      refine WD.l ?_
      refine WO.eff rfl rfl (by repeat (first | exact List.Sublist.refl _ | exact List.nil_sublist _ | refine List.Sublist.cons_cons _ ?_ | refine List.Sublist.cons _ ?_)) (E_storeIv c (by kernel_rfl) rfl rfl (by repeat (first | exact Upd.here _ _ | apply Upd.there)) rfl (by (try simp only [m1_len, m2_len, m3_len]); omega)) ?_; rintro _ _ ⟨rfl, rfl⟩; refine ⟨by simp, ?_⟩; rw [m3_f]
      refine WD.done ?_
      exact WQ.pick (S' := [(0, _), (1, _), (2, _), (3, _), (5, _)]) [0, 1, 2, 3, 5] rfl hj
    ·
      refine WO.val rfl rfl (by repeat (first | exact List.Sublist.refl _ | exact List.nil_sublist _ | refine List.Sublist.cons_cons _ ?_ | refine List.Sublist.cons _ ?_)) (V_loadIv d (by kernel_rfl) rfl (by repeat (first | exact At.head | exact AtW.at ‹_› (by simp) | apply At.tail)) rfl (by (try simp only [m1_len, m2_len, m3_len]); omega)) ?_
      refine WD.l ?_
      refine WO.val rfl rfl (by repeat (first | exact List.Sublist.refl _ | exact List.nil_sublist _ | refine List.Sublist.cons_cons _ ?_ | refine List.Sublist.cons _ ?_)) (V_loadIv c (by kernel_rfl) rfl (by repeat (first | exact At.head | exact AtW.at ‹_› (by simp) | apply At.tail)) rfl (by (try simp only [m1_len, m2_len, m3_len]); omega)) ?_
      refine WD.q rfl rfl (V_add rfl rfl) ?_
      refine WD.q rfl rfl (V_nil rfl) ?_
      refine WD.l ?_
      refine WO.eff rfl rfl (by repeat (first | exact List.Sublist.refl _ | exact List.nil_sublist _ | refine List.Sublist.cons_cons _ ?_ | refine List.Sublist.cons _ ?_)) (E_storeIv c (by kernel_rfl) rfl rfl (by repeat (first | exact Upd.here _ _ | apply Upd.there)) rfl (by (try simp only [m1_len, m2_len, m3_len]); omega)) ?_; rintro _ _ ⟨rfl, rfl⟩; refine ⟨by simp, ?_⟩; rw [m3_f]
      refine WD.done ?_
      exact WQ.pick (S' := [(0, _), (1, _), (2, _), (3, _), (5, _)]) [0, 1, 2, 3, 5] rfl hj
  refine WQ.then ?_
  refine W.seq ?_
  apply W.join
  · intro hj
    refine W.drawn (.q 0 (.q 1 (.q 2 (.q 4 (.q 5 (.l2 3 (.l 6 (.q 7 (.l 8 (.q 9 (.l 10 (.done)))))) 6 (.l 3 (.q 7 (.l 8 (.q 9 (.l 10 (.done)))))))))))) [] (by kernel_rfl) (fun _ a d _ _ h => by cases d <;> exact h) (by kernel_rfl) (by repeat (first | exact List.Sublist.refl _ | exact List.nil_sublist _ | refine List.Sublist.cons_cons _ ?_ | refine List.Sublist.cons _ ?_)) ?_
    refine WD.q rfl rfl (V_move rfl) ?_
    refine WD.q rfl rfl (V_move rfl) ?_
    refine WD.q rfl rfl (V_nil rfl) ?_
    refine WD.q rfl rfl (V_move rfl) ?_
    refine WD.q rfl rfl (V_nil rfl) ?_
    refine WD.l2 ?_ ?_
    ·
      refine WO.val rfl rfl (by repeat (first | exact List.Sublist.refl _ | exact List.nil_sublist _ | refine List.Sublist.cons_cons _ ?_ | refine List.Sublist.cons _ ?_)) (V_loadIv b (by kernel_rfl) rfl (by repeat (first | exact At.head | exact AtW.at ‹_› (by simp) | apply At.tail)) rfl (by (try simp only [m1_len, m2_len, m3_len]); omega)) ?_
      refine WD.l ?_
      refine WO.val rfl rfl (by repeat (first | exact List.Sublist.refl _ | exact List.nil_sublist _ | refine List.Sublist.cons_cons _ ?_ | refine List.Sublist.cons _ ?_)) (V_loadIv c (by kernel_rfl) rfl (by repeat (first | exact At.head | exact AtW.at ‹_› (by simp) | apply At.tail)) rfl (by (try simp only [m1_len, m2_len, m3_len]); omega)) ?_
      refine WD.q rfl rfl (V_xor rfl rfl) ?_
      refine WD.l ?_
      refine WO.cal rfl rfl (by repeat (first | exact List.Sublist.refl _ | exact List.nil_sublist _ | refine List.Sublist.cons_cons _ ?_ | refine List.Sublist.cons _ ?_)) (C_pure _ (by kernel_rfl) rfl (fun w hp => rot_calls _ _ 12 w (by decide) (by decide) (by decide))) ?_; rintro _ _ ⟨rfl, rfl⟩; refine ⟨by simp, ?_⟩
      refine WD.q rfl rfl (V_nil rfl) ?_
      refine WD.l ?_
      refine WO.eff rfl rfl (by repeat (first | exact List.Sublist.refl _ | exact List.nil_sublist _ | refine List.Sublist.cons_cons _ ?_ | refine List.Sublist.cons _ ?_)) (E_storeIv b (by kernel_rfl) rfl rfl (by repeat (first | exact Upd.here _ _ | apply Upd.there)) rfl (by (try simp only [m1_len, m2_len, m3_len]); omega)) ?_; rintro _ _ ⟨rfl, rfl⟩; refine ⟨by simp, ?_⟩; rw [m2_f]
      refine WD.done ?_
      exact WQ.pick (S' := [(0, _), (1, _), (2, _), (3, _), (5, _)]) [0, 1, 2, 3, 5] rfl hj
    ·
      refine WO.val rfl rfl (by repeat (first | exact List.Sublist.refl _ | exact List.nil_sublist _ | refine List.Sublist.cons_cons _ ?_ | refine List.Sublist.cons _ ?_)) (V_loadIv c (by kernel_rfl) rfl (by repeat (first | exact At.head | exact AtW.at ‹_› (by simp) | apply At.tail)) rfl (by (try simp only [m1_len, m2_len, m3_len]); omega)) ?_
      refine WD.l ?_
      refine WO.val rfl rfl (by repeat (first | exact List.Sublist.refl _ | exact List.nil_sublist _ | refine List.Sublist.cons_cons _ ?_ | refine List.Sublist.cons _ ?_)) (V_loadIv b (by kernel_rfl) rfl (by repeat (first | exact At.head | exact AtW.at ‹_› (by simp) | apply At.tail)) rfl (by (try simp only [m1_len, m2_len, m3_len]); omega)) ?_
      refine WD.q rfl rfl (V_xor rfl rfl) ?_
      refine WD.l ?_
      refine WO.cal rfl rfl (by repeat (first | exact List.Sublist.refl _ | exact List.nil_sublist _ | refine List.Sublist.cons_cons _ ?_ | refine List.Sublist.cons _ ?_)) (C_pure _ (by kernel_rfl) rfl (fun w hp => rot_calls _ _ 12 w (by decide) (by decide) (by decide))) ?_; rintro _ _ ⟨rfl, rfl⟩; refine ⟨by simp, ?_⟩
      refine WD.q rfl rfl (V_nil rfl) ?_
      refine WD.l ?_
      refine WO.eff rfl rfl (by repeat (first | exact List.Sublist.refl _ | exact List.nil_sublist _ | refine List.Sublist.cons_cons _ ?_ | refine List.Sublist.cons _ ?_)) (E_storeIv b (by kernel_rfl) rfl rfl (by repeat (first | exact Upd.here _ _ | apply Upd.there)) rfl (by (try simp only [m1_len, m2_len, m3_len]); omega)) ?_; rintro _ _ ⟨rfl, rfl⟩; refine ⟨by simp, ?_⟩; rw [m2_f]
      refine WD.done ?_
      exact WQ.pick (S' := [(0, _), (1, _), (2, _), (3, _), (5, _)]) [0, 1, 2, 3, 5] rfl hj
  refine WQ.then ?_
  refine W.seq ?_
  apply W.join
  · intro hj
    refine W.drawn (.q 0 (.q 1 (.q 3 (.q 4 (.q 6 (.l2 2 (.l 5 (.q 7 (.q 8 (.q 9 (.l 10 (.done)))))) 5 (.q 7 (.l 2 (.q 8 (.q 9 (.l 10 (.done)))))))))))) [] (by kernel_rfl) (fun _ a d _ _ h => by cases d <;> exact h) (by kernel_rfl) (by repeat (first | exact List.Sublist.refl _ | exact List.nil_sublist _ | refine List.Sublist.cons_cons _ ?_ | refine List.Sublist.cons _ ?_)) ?_
    refine WD.q rfl rfl (V_move rfl) ?_
    refine WD.q rfl rfl (V_nil rfl) ?_
    refine WD.q rfl rfl (V_move rfl) ?_
    refine WD.q rfl rfl (V_nil rfl) ?_
    refine WD.q rfl rfl (V_move rfl) ?_
    refine WD.l2 ?_ ?_
    ·
      refine WO.val rfl rfl (by repeat (first | exact List.Sublist.refl _ | exact List.nil_sublist _ | refine List.Sublist.cons_cons _ ?_ | refine List.Sublist.cons _ ?_)) (V_loadIv a (by kernel_rfl) rfl (by repeat (first | exact At.head | exact AtW.at ‹_› (by simp) | apply At.tail)) rfl (by (try simp only [m1_len, m2_len, m3_len]); omega)) ?_
      refine WD.l ?_
      refine WO.val rfl rfl (by repeat (first | exact List.Sublist.refl _ | exact List.nil_sublist _ | refine List.Sublist.cons_cons _ ?_ | refine List.Sublist.cons _ ?_)) (V_loadIv b (by kernel_rfl) rfl (by repeat (first | exact At.head | exact AtW.at ‹_› (by simp) | apply At.tail)) rfl (by (try simp only [m1_len, m2_len, m3_len]); omega)) ?_
      refine WD.q rfl rfl (V_add rfl rfl) ?_
      refine WD.q rfl rfl (V_add rfl rfl) ?_
      refine WD.q rfl rfl (V_nil rfl) ?_
      refine WD.l ?_
      refine WO.eff rfl rfl (by repeat (first | exact List.Sublist.refl _ | exact List.nil_sublist _ | refine List.Sublist.cons_cons _ ?_ | refine List.Sublist.cons _ ?_)) (E_storeIv a (by kernel_rfl) rfl rfl (by repeat (first | exact Upd.here _ _ | apply Upd.there)) rfl (by (try simp only [m1_len, m2_len, m3_len]); omega)) ?_; rintro _ _ ⟨rfl, rfl⟩; refine ⟨by simp, ?_⟩; rw [m1_l]
      refine WD.done ?_
      exact WQ.pick (S' := [(0, _), (1, _), (2, _), (3, _)]) [0, 1, 2, 3] rfl hj
    ·
      refine WO.val rfl rfl (by repeat (first | exact List.Sublist.refl _ | exact List.nil_sublist _ | refine List.Sublist.cons_cons _ ?_ | refine List.Sublist.cons _ ?_)) (V_loadIv b (by kernel_rfl) rfl (by repeat (first | exact At.head | exact AtW.at ‹_› (by simp) | apply At.tail)) rfl (by (try simp only [m1_len, m2_len, m3_len]); omega)) ?_
      refine WD.q rfl rfl (V_add rfl rfl) ?_
      refine WD.l ?_
      refine WO.val rfl rfl (by repeat (first | exact List.Sublist.refl _ | exact List.nil_sublist _ | refine List.Sublist.cons_cons _ ?_ | refine List.Sublist.cons _ ?_)) (V_loadIv a (by kernel_rfl) rfl (by repeat (first | exact At.head | exact AtW.at ‹_› (by simp) | apply At.tail)) rfl (by (try simp only [m1_len, m2_len, m3_len]); omega)) ?_
      refine WD.q rfl rfl (V_add rfl rfl) ?_
      refine WD.q rfl rfl (V_nil rfl) ?_
      refine WD.l ?_
      refine WO.eff rfl rfl (by repeat (first | exact List.Sublist.refl _ | exact List.nil_sublist _ | refine List.Sublist.cons_cons _ ?_ | refine List.Sublist.cons _ ?_)) (E_storeIv a (by kernel_rfl) rfl rfl (by repeat (first | exact Upd.here _ _ | apply Upd.there)) rfl (by (try simp only [m1_len, m2_len, m3_len]); omega)) ?_; rintro _ _ ⟨rfl, rfl⟩; refine ⟨by simp, ?_⟩; rw [m1_l]
      refine WD.done ?_
      exact WQ.pick (S' := [(0, _), (1, _), (2, _), (3, _)]) [0, 1, 2, 3] rfl hj
  refine WQ.then ?_
  refine W.seq ?_
  apply W.join
  · intro hj
    refine W.drawn (.q 0 (.q 1 (.q 2 (.q 4 (.q 5 (.l2 3 (.l 6 (.q 7 (.l 8 (.q 9 (.l 10 (.done)))))) 6 (.l 3 (.q 7 (.l 8 (.q 9 (.l 10 (.done)))))))))))) [] (by kernel_rfl) (fun _ a d _ _ h => by cases d <;> exact h) (by kernel_rfl) (by repeat (first | exact List.Sublist.refl _ | exact List.nil_sublist _ | refine List.Sublist.cons_cons _ ?_ | refine List.Sublist.cons _ ?_)) ?_
    refine WD.q rfl rfl (V_move rfl) ?_
    refine WD.q rfl rfl (V_move rfl) ?_
    refine WD.q rfl rfl (V_nil rfl) ?_
    refine WD.q rfl rfl (V_move rfl) ?_
    refine WD.q rfl rfl (V_nil rfl) ?_
    refine WD.l2 ?_ ?_
    ·
      refine WO.val rfl rfl (by repeat (first | exact List.Sublist.refl _ | exact List.nil_sublist _ | refine List.Sublist.cons_cons _ ?_ | refine List.Sublist.cons _ ?_)) (V_loadIv d (by kernel_rfl) rfl (by repeat (first | exact At.head | exact AtW.at ‹_› (by simp) | apply At.tail)) rfl (by (try simp only [m1_len, m2_len, m3_len]); omega)) ?_
      refine WD.l ?_
      refine WO.val rfl rfl (by repeat (first | exact List.Sublist.refl _ | exact List.nil_sublist _ | refine List.Sublist.cons_cons _ ?_ | refine List.Sublist.cons _ ?_)) (V_loadIv a (by kernel_rfl) rfl (by repeat (first | exact At.head | exact AtW.at ‹_› (by simp) | apply At.tail)) rfl (by (try simp only [m1_len, m2_len, m3_len]); omega)) ?_
      refine WD.q rfl rfl (V_xor rfl rfl) ?_
      refine WD.l ?_
      refine WO.cal rfl rfl (by repeat (first | exact List.Sublist.refl _ | exact List.nil_sublist _ | refine List.Sublist.cons_cons _ ?_ | refine List.Sublist.cons _ ?_)) (C_pure _ (by kernel_rfl) rfl (fun w hp => rot_calls _ _ 8 w (by decide) (by decide) (by decide))) ?_; rintro _ _ ⟨rfl, rfl⟩; refine ⟨by simp, ?_⟩
      refine WD.q rfl rfl (V_nil rfl) ?_
      refine WD.l ?_
      refine WO.eff rfl rfl (by repeat (first | exact List.Sublist.refl _ | exact List.nil_sublist _ | refine List.Sublist.cons_cons _ ?_ | refine List.Sublist.cons _ ?_)) (E_storeIv d (by kernel_rfl) rfl rfl (by repeat (first | exact Upd.here _ _ | apply Upd.there)) rfl (by (try simp only [m1_len, m2_len, m3_len]); omega)) ?_; rintro _ _ ⟨rfl, rfl⟩; refine ⟨by simp, ?_⟩; rw [m2_f]
      refine WD.done ?_
      exact WQ.pick (S' := [(0, _), (1, _), (2, _), (3, _)]) [0, 1, 2, 3] rfl hj
    ·
      refine WO.val rfl rfl (by repeat (first | exact List.Sublist.refl _ | exact List.nil_sublist _ | refine List.Sublist.cons_cons _ ?_ | refine List.Sublist.cons _ ?_)) (V_loadIv a (by kernel_rfl) rfl (by repeat (first | exact At.head | exact AtW.at ‹_› (by simp) | apply At.tail)) rfl (by (try simp only [m1_len, m2_len, m3_len]); omega)) ?_
      refine WD.l ?_
      refine WO.val rfl rfl (by repeat (first | exact List.Sublist.refl _ | exact List.nil_sublist _ | refine List.Sublist.cons_cons _ ?_ | refine List.Sublist.cons _ ?_)) (V_loadIv d (by kernel_rfl) rfl (by repeat (first | exact At.head | exact AtW.at ‹_› (by simp) | apply At.tail)) rfl (by (try simp only [m1_len, m2_len, m3_len]); omega)) ?_
      refine WD.q rfl rfl (V_xor rfl rfl) ?_
      refine WD.l ?_
      refine WO.cal rfl rfl (by repeat (first | exact List.Sublist.refl _ | exact List.nil_sublist _ | refine List.Sublist.cons_cons _ ?_ | refine List.Sublist.cons _ ?_)) (C_pure _ (by kernel_rfl) rfl (fun w hp => rot_calls _ _ 8 w (by decide) (by decide) (by decide))) ?_; rintro _ _ ⟨rfl, rfl⟩; refine ⟨by simp, ?_⟩
      refine WD.q rfl rfl (V_nil rfl) ?_
      refine WD.l ?_
      refine WO.eff rfl rfl (by repeat (first | exact List.Sublist.refl _ | exact List.nil_sublist _ | refine List.Sublist.cons_cons _ ?_ | refine List.Sublist.cons _ ?_)) (E_storeIv d (by kernel_rfl) rfl rfl (by repeat (first | exact Upd.here _ _ | apply Upd.there)) rfl (by (try simp only [m1_len, m2_len, m3_len]); omega)) ?_; rintro _ _ ⟨rfl, rfl⟩; refine ⟨by simp, ?_⟩; rw [m2_f]
      refine WD.done ?_
      exact WQ.pick (S' := [(0, _), (1, _), (2, _), (3, _)]) [0, 1, 2, 3] rfl hj
  refine WQ.then ?_
  refine W.seq ?_
  apply W.join
  · intro hj
    refine W.drawn (.q 0 (.q 1 (.q 3 (.q 4 (.l2 2 (.l 5 (.q 6 (.q 7 (.l 8 (.done))))) 5 (.l 2 (.q 6 (.q 7 (.l 8 (.done)))))))))) [] (by kernel_rfl) (fun _ a d _ _ h => by cases d <;> exact h) (by kernel_rfl) (by repeat (first | exact List.Sublist.refl _ | exact List.nil_sublist _ | refine List.Sublist.cons_cons _ ?_ | refine List.Sublist.cons _ ?_)) ?_
    refine WD.q rfl rfl (V_move rfl) ?_
    refine WD.q rfl rfl (V_nil rfl) ?_
    refine WD.q rfl rfl (V_move rfl) ?_
    refine WD.q rfl rfl (V_nil rfl) ?_
    refine WD.l2 ?_ ?_
    ·
      refine WO.val rfl rfl (by repeat (first | exact List.Sublist.refl _ | exact List.nil_sublist _ | refine List.Sublist.cons_cons _ ?_ | refine List.Sublist.cons _ ?_)) (V_loadIv c (by kernel_rfl) rfl (by repeat (first | exact At.head | exact AtW.at ‹_› (by simp) | apply At.tail)) rfl (by (try simp only [m1_len, m2_len, m3_len]); omega)) ?_
      refine WD.l ?_
      refine WO.val rfl rfl (by repeat (first | exact List.Sublist.refl _ | exact List.nil_sublist _ | refine List.Sublist.cons_cons _ ?_ | refine List.Sublist.cons _ ?_)) (V_loadIv d (by kernel_rfl) rfl (by repeat (first | exact At.head | exact AtW.at ‹_› (by simp) | apply At.tail)) rfl (by (try simp only [m1_len, m2_len, m3_len]); omega)) ?_
      refine WD.q rfl rfl (V_add rfl rfl) ?_
      refine WD.q rfl rfl (V_nil rfl) ?_
      refine WD.l ?_
      refine WO.eff rfl rfl (by repeat (first | exact List.Sublist.refl _ | exact List.nil_sublist _ | refine List.Sublist.cons_cons _ ?_ | refine List.Sublist.cons _ ?_)) (E_storeIv c (by kernel_rfl) rfl rfl (by repeat (first | exact Upd.here _ _ | apply Upd.there)) rfl (by (try simp only [m1_len, m2_len, m3_len]); omega)) ?_; rintro _ _ ⟨rfl, rfl⟩; refine ⟨by simp, ?_⟩; rw [m3_f]
      refine WD.done ?_
      exact WQ.pick (S' := [(0, _), (1, _), (2, _), (3, _)]) [0, 1, 2, 3] rfl hj
    ·
      refine WO.val rfl rfl (by repeat (first | exact List.Sublist.refl _ | exact List.nil_sublist _ | refine List.Sublist.cons_cons _ ?_ | refine List.Sublist.cons _ ?_)) (V_loadIv d (by kernel_rfl) rfl (by repeat (first | exact At.head | exact AtW.at ‹_› (by simp) | apply At.tail)) rfl (by (try simp only [m1_len, m2_len, m3_len]); omega)) ?_
      refine WD.l ?_
      refine WO.val rfl rfl (by repeat (first | exact List.Sublist.refl _ | exact List.nil_sublist _ | refine List.Sublist.cons_cons _ ?_ | refine List.Sublist.cons _ ?_)) (V_loadIv c (by kernel_rfl) rfl (by repeat (first | exact At.head | exact AtW.at ‹_› (by simp) | apply At.tail)) rfl (by (try simp only [m1_len, m2_len, m3_len]); omega)) ?_
      refine WD.q rfl rfl (V_add rfl rfl) ?_
      refine WD.q rfl rfl (V_nil rfl) ?_
      refine WD.l ?_
      refine WO.eff rfl rfl (by repeat (first | exact List.Sublist.refl _ | exact List.nil_sublist _ | refine List.Sublist.cons_cons _ ?_ | refine List.Sublist.cons _ ?_)) (E_storeIv c (by kernel_rfl) rfl rfl (by repeat (first | exact Upd.here _ _ | apply Upd.there)) rfl (by (try simp only [m1_len, m2_len, m3_len]); omega)) ?_; rintro _ _ ⟨rfl, rfl⟩; refine ⟨by simp, ?_⟩; rw [m3_f]
      refine WD.done ?_
      exact WQ.pick (S' := [(0, _), (1, _), (2, _), (3, _)]) [0, 1, 2, 3] rfl hj
  refine WQ.then ?_
  apply W.join
  · intro hj
    refine W.drawn (.q 0 (.q 1 (.q 2 (.q 4 (.q 5 (.l2 3 (.l 6 (.q 7 (.l 8 (.q 9 (.l 10 (.done)))))) 6 (.l 3 (.q 7 (.l 8 (.q 9 (.l 10 (.done)))))))))))) [] (by kernel_rfl) (fun _ a d _ _ h => by cases d <;> exact h) (by kernel_rfl) (by repeat (first | exact List.Sublist.refl _ | exact List.nil_sublist _ | refine List.Sublist.cons_cons _ ?_ | refine List.Sublist.cons _ ?_)) ?_
    refine WD.q rfl rfl (V_move rfl) ?_
    refine WD.q rfl rfl (V_move rfl) ?_
    refine WD.q rfl rfl (V_nil rfl) ?_
    refine WD.q rfl rfl (V_move rfl) ?_
    refine WD.q rfl rfl (V_nil rfl) ?_
    refine WD.l2 ?_ ?_
    ·
      refine WO.val rfl rfl (by repeat (first | exact List.Sublist.refl _ | exact List.nil_sublist _ | refine List.Sublist.cons_cons _ ?_ | refine List.Sublist.cons _ ?_)) (V_loadIv b (by kernel_rfl) rfl (by repeat (first | exact At.head | exact AtW.at ‹_› (by simp) | apply At.tail)) rfl (by (try simp only [m1_len, m2_len, m3_len]); omega)) ?_
      refine WD.l ?_
      refine WO.val rfl rfl (by repeat (first | exact List.Sublist.refl _ | exact List.nil_sublist _ | refine List.Sublist.cons_cons _ ?_ | refine List.Sublist.cons _ ?_)) (V_loadIv c (by kernel_rfl) rfl (by repeat (first | exact At.head | exact AtW.at ‹_› (by simp) | apply At.tail)) rfl (by (try simp only [m1_len, m2_len, m3_len]); omega)) ?_
      refine WD.q rfl rfl (V_xor rfl rfl) ?_
      refine WD.l ?_
      refine WO.cal rfl rfl (by repeat (first | exact List.Sublist.refl _ | exact List.nil_sublist _ | refine List.Sublist.cons_cons _ ?_ | refine List.Sublist.cons _ ?_)) (C_pure _ (by kernel_rfl) rfl (fun w hp => rot_calls _ _ 7 w (by decide) (by decide) (by decide))) ?_; rintro _ _ ⟨rfl, rfl⟩; refine ⟨by simp, ?_⟩
      refine WD.q rfl rfl (V_nil rfl) ?_
      refine WD.l ?_
      refine WO.eff rfl rfl (by repeat (first | exact List.Sublist.refl _ | exact List.nil_sublist _ | refine List.Sublist.cons_cons _ ?_ | refine List.Sublist.cons _ ?_)) (E_storeIv b (by kernel_rfl) rfl rfl (by repeat (first | exact Upd.here _ _ | apply Upd.there)) rfl (by (try simp only [m1_len, m2_len, m3_len]); omega)) ?_; rintro _ _ ⟨rfl, rfl⟩; refine ⟨by simp, ?_⟩; rw [m2_f]
      refine WD.done ?_
      exact WQ.pick (S' := [(0, _), (1, _), (2, _), (3, _)]) [0, 1, 2, 3] rfl hj
    ·
      refine WO.val rfl rfl (by repeat (first | exact List.Sublist.refl _ | exact List.nil_sublist _ | refine List.Sublist.cons_cons _ ?_ | refine List.Sublist.cons _ ?_)) (V_loadIv c (by kernel_rfl) rfl (by repeat (first | exact At.head | exact AtW.at ‹_› (by simp) | apply At.tail)) rfl (by (try simp only [m1_len, m2_len, m3_len]); omega)) ?_
      refine WD.l ?_
      refine WO.val rfl rfl (by repeat (first | exact List.Sublist.refl _ | exact List.nil_sublist _ | refine List.Sublist.cons_cons _ ?_ | refine List.Sublist.cons _ ?_)) (V_loadIv b (by kernel_rfl) rfl (by repeat (first | exact At.head | exact AtW.at ‹_› (by simp) | apply At.tail)) rfl (by (try simp only [m1_len, m2_len, m3_len]); omega)) ?_
      refine WD.q rfl rfl (V_xor rfl rfl) ?_
      refine WD.l ?_
      refine WO.cal rfl rfl (by repeat (first | exact List.Sublist.refl _ | exact List.nil_sublist _ | refine List.Sublist.cons_cons _ ?_ | refine List.Sublist.cons _ ?_)) (C_pure _ (by kernel_rfl) rfl (fun w hp => rot_calls _ _ 7 w (by decide) (by decide) (by decide))) ?_; rintro _ _ ⟨rfl, rfl⟩; refine ⟨by simp, ?_⟩
      refine WD.q rfl rfl (V_nil rfl) ?_
      refine WD.l ?_
      refine WO.eff rfl rfl (by repeat (first | exact List.Sublist.refl _ | exact List.nil_sublist _ | refine List.Sublist.cons_cons _ ?_ | refine List.Sublist.cons _ ?_)) (E_storeIv b (by kernel_rfl) rfl rfl (by repeat (first | exact Upd.here _ _ | apply Upd.there)) rfl (by (try simp only [m1_len, m2_len, m3_len]); omega)) ?_; rintro _ _ ⟨rfl, rfl⟩; refine ⟨by simp, ?_⟩; rw [m2_f]
      refine WD.done ?_
      exact WQ.pick (S' := [(0, _), (1, _), (2, _), (3, _)]) [0, 1, 2, 3] rfl hj
  refine WQ.ret0 (.inr rfl) Tryz.results142 ?_
  intro w' hp; exact ⟨rfl, hp⟩

end Go.Proofs.YtmeckbjinmgbbaaGreat