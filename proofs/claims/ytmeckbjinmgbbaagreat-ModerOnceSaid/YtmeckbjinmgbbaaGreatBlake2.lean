/- BLAKE2s: the tables, and how words are mixed by the document's answer. -/
import Derived.Test.YtmeckbjinmgbbaaGreatBlake
import Derived.Test.YtmeckbjinmgbbaaGreatXA
set_option linter.unusedVariables false
set_option linter.unusedSimpArgs false

namespace Go.Proofs.YtmeckbjinmgbbaaGreat
open Go.X
def firstL : List Int := [0x6a09e667, 0xbb67ae85, 0x3c6ef372, 0xa54ff53a, 0x510e527f, 0x9b05688c, 0x1f83d9ab, 0x5be0cd19]
def sigAll : List Int := [0, 1, 2, 3, 4, 5, 6, 7, 8, 9, 10, 11, 12, 13, 14, 15,
  14, 10, 4, 8, 9, 15, 13, 6, 1, 12, 0, 2, 11, 7, 5, 3,
  11, 8, 12, 0, 5, 2, 15, 13, 10, 14, 3, 6, 7, 1, 9, 4,
  7, 9, 3, 1, 13, 12, 11, 14, 2, 6, 5, 10, 4, 0, 15, 8,
  9, 0, 5, 7, 2, 4, 10, 15, 14, 1, 11, 12, 6, 8, 3, 13,
  2, 12, 6, 10, 0, 11, 8, 3, 4, 13, 7, 5, 15, 14, 1, 9,
  12, 5, 1, 15, 14, 13, 4, 10, 0, 7, 6, 3, 9, 2, 8, 11,
  13, 11, 7, 14, 12, 1, 3, 9, 5, 0, 15, 4, 8, 6, 2, 10,
  6, 15, 14, 9, 11, 3, 0, 8, 12, 2, 13, 7, 1, 4, 10, 5,
  10, 2, 8, 4, 7, 6, 1, 5, 15, 11, 9, 14, 3, 12, 13, 0]
def sig (i : Nat) : List Int := (sigAll.drop (16 * i)).take 16
/-- The rows' own blocks. -/
def rowB (i : Nat) : Blk := .cells [(16, iv .i64 (sig i)), (16 - 16, [])] 3
def rowsL (B : Nat → Nat) : List (Nat × Blk) := [(B 9, rowB 9), (B 8, rowB 8), (B 7, rowB 7), (B 6, rowB 6), (B 5, rowB 5), (B 4, rowB 4), (B 3, rowB 3), (B 2, rowB 2), (B 1, rowB 1), (B 0, rowB 0)]
theorem rowsMem (B : Nat → Nat) : ∀ i, i < 10 → (B i, rowB i) ∈ rowsL B
  | 0, _ => by simp [rowsL]
  | 1, _ => by simp [rowsL]
  | 2, _ => by simp [rowsL]
  | 3, _ => by simp [rowsL]
  | 4, _ => by simp [rowsL]
  | 5, _ => by simp [rowsL]
  | 6, _ => by simp [rowsL]
  | 7, _ => by simp [rowsL]
  | 8, _ => by simp [rowsL]
  | 9, _ => by simp [rowsL]
  | n + 10, h => by omega

set_option maxHeartbeats 1000000 in
theorem rmix_calls (bv n cap a b c d r : Nat) (l : List Int) (rs : List Value) (x y : Int) (T : TypeId) (w : World) (hv : (Blk.cells [(n, iv .u32 l), (r, rs)] T).Is w.heap[bv]?) (hn : l.length = n) (ha : a < n) (hb : b < n) (hc : c < n) (hd : d < n) :
    Calls Tryz.prog 161 [.slice (some ⟨bv, 0, none⟩) n cap, .int .i64 a, .int .i64 b, .int .i64 c, .int .i64 d, .int .u32 x, .int .u32 y].toArray w fun e w' => e = .returned (.tuple #[]) ∧ HP w w' [bv] [(bv, .cells [(n, iv .u32 (mixF l a b c d x y)), (r, rs)] T)] := by
  refine calls_of_W Tryz.func161 rfl Tryz.ntmps161 rfl rfl (HP.start (O := [bv]) (L := [(bv, .cells [(n, iv .u32 l), (r, rs)] T)]) (by simpa using hv) (by simp) (by simp)) ?_
  refine W.seq ?_
  apply W.join
  · intro hj
    refine W.drawn (.q 0 (.q 1 (.q 2 (.q 3 (.q 4 (.q 6 (.q 7 (.q 8 (.q 11 (.l2 5 (.l 9 (.q 10 (.q 12 (.q 13 (.l 14 (.done)))))) 9 (.l 5 (.q 10 (.q 12 (.q 13 (.l 14 (.done)))))))))))))))) [] (by kernel_rfl) (fun _ a d _ _ h => by cases d <;> exact h) (by kernel_rfl) (by repeat (first | exact List.Sublist.refl _ | exact List.nil_sublist _ | refine List.Sublist.cons_cons _ ?_ | refine List.Sublist.cons _ ?_)) ?_
    refine WD.q rfl rfl (V_move rfl) ?_
    refine WD.q rfl rfl (V_move rfl) ?_
    refine WD.q rfl rfl (V_move rfl) ?_
    refine WD.q rfl rfl (V_move rfl) ?_
    refine WD.q rfl rfl (V_indexAddrS 1 (by kernel_rfl) rfl rfl (by omega) (by omega)) ?_
    refine WD.q rfl rfl (V_move rfl) ?_
    refine WD.q rfl rfl (V_move rfl) ?_
    refine WD.q rfl rfl (V_indexAddrS 1 (by kernel_rfl) rfl rfl (by omega) (by omega)) ?_
    refine WD.q rfl rfl (V_move rfl) ?_
    refine WD.l2 ?_ ?_
    ·
      refine WO.val rfl rfl (by repeat (first | exact List.Sublist.refl _ | exact List.nil_sublist _ | refine List.Sublist.cons_cons _ ?_ | refine List.Sublist.cons _ ?_)) (V_loadIv a (by kernel_rfl) rfl (by repeat (first | exact At.head | exact AtW.at ‹_› (by simp) | apply At.tail)) (by simp) (by (try simp only [m1_len, m2_len, m3_len]); omega)) ?_
      refine WD.l ?_
      refine WO.val rfl rfl (by repeat (first | exact List.Sublist.refl _ | exact List.nil_sublist _ | refine List.Sublist.cons_cons _ ?_ | refine List.Sublist.cons _ ?_)) (V_loadIv b (by kernel_rfl) rfl (by repeat (first | exact At.head | exact AtW.at ‹_› (by simp) | apply At.tail)) (by simp) (by (try simp only [m1_len, m2_len, m3_len]); omega)) ?_
      refine WD.q rfl rfl (V_add rfl rfl) ?_
      refine WD.q rfl rfl (V_add rfl rfl) ?_
      refine WD.q rfl rfl (V_indexAddrS 1 (by kernel_rfl) rfl rfl (by omega) (by omega)) ?_
      refine WD.l ?_
      refine WO.eff rfl rfl (by repeat (first | exact List.Sublist.refl _ | exact List.nil_sublist _ | refine List.Sublist.cons_cons _ ?_ | refine List.Sublist.cons _ ?_)) (E_storeIv a (by kernel_rfl) rfl rfl (by repeat (first | exact Upd.here _ _ | apply Upd.there)) (by simp) (by (try simp only [m1_len, m2_len, m3_len]); omega)) ?_; rintro _ _ ⟨rfl, rfl⟩; refine ⟨by simp, ?_⟩; rw [m1_r]
      refine WD.done ?_
      exact WQ.pick (S' := [(0, _), (1, _), (2, _), (3, _), (4, _), (6, _)]) [0, 1, 2, 3, 4, 6] rfl hj
    ·
      refine WO.val rfl rfl (by repeat (first | exact List.Sublist.refl _ | exact List.nil_sublist _ | refine List.Sublist.cons_cons _ ?_ | refine List.Sublist.cons _ ?_)) (V_loadIv b (by kernel_rfl) rfl (by repeat (first | exact At.head | exact AtW.at ‹_› (by simp) | apply At.tail)) (by simp) (by (try simp only [m1_len, m2_len, m3_len]); omega)) ?_
      refine WD.l ?_
      refine WO.val rfl rfl (by repeat (first | exact List.Sublist.refl _ | exact List.nil_sublist _ | refine List.Sublist.cons_cons _ ?_ | refine List.Sublist.cons _ ?_)) (V_loadIv a (by kernel_rfl) rfl (by repeat (first | exact At.head | exact AtW.at ‹_› (by simp) | apply At.tail)) (by simp) (by (try simp only [m1_len, m2_len, m3_len]); omega)) ?_
      refine WD.q rfl rfl (V_add rfl rfl) ?_
      refine WD.q rfl rfl (V_add rfl rfl) ?_
      refine WD.q rfl rfl (V_indexAddrS 1 (by kernel_rfl) rfl rfl (by omega) (by omega)) ?_
      refine WD.l ?_
      refine WO.eff rfl rfl (by repeat (first | exact List.Sublist.refl _ | exact List.nil_sublist _ | refine List.Sublist.cons_cons _ ?_ | refine List.Sublist.cons _ ?_)) (E_storeIv a (by kernel_rfl) rfl rfl (by repeat (first | exact Upd.here _ _ | apply Upd.there)) (by simp) (by (try simp only [m1_len, m2_len, m3_len]); omega)) ?_; rintro _ _ ⟨rfl, rfl⟩; refine ⟨by simp, ?_⟩; rw [m1_r]
      refine WD.done ?_
      exact WQ.pick (S' := [(0, _), (1, _), (2, _), (3, _), (4, _), (6, _)]) [0, 1, 2, 3, 4, 6] rfl hj
  refine WQ.then ?_
  refine W.seq ?_
  apply W.join
  · intro hj
    refine W.drawn (.q 0 (.q 1 (.q 2 (.q 3 (.q 4 (.q 6 (.q 7 (.q 8 (.l2 5 (.l 9 (.q 10 (.l 11 (.q 12 (.l 13 (.done)))))) 9 (.l 5 (.q 10 (.l 11 (.q 12 (.l 13 (.done))))))))))))))) [] (by kernel_rfl) (fun _ a d _ _ h => by cases d <;> exact h) (by kernel_rfl) (by repeat (first | exact List.Sublist.refl _ | exact List.nil_sublist _ | refine List.Sublist.cons_cons _ ?_ | refine List.Sublist.cons _ ?_)) ?_
    refine WD.q rfl rfl (V_move rfl) ?_
    refine WD.q rfl rfl (V_move rfl) ?_
    refine WD.q rfl rfl (V_move rfl) ?_
    refine WD.q rfl rfl (V_move rfl) ?_
    refine WD.q rfl rfl (V_indexAddrS 1 (by kernel_rfl) rfl rfl (by omega) (by omega)) ?_
    refine WD.q rfl rfl (V_move rfl) ?_
    refine WD.q rfl rfl (V_move rfl) ?_
    refine WD.q rfl rfl (V_indexAddrS 1 (by kernel_rfl) rfl rfl (by omega) (by omega)) ?_
    refine WD.l2 ?_ ?_
    ·
      refine WO.val rfl rfl (by repeat (first | exact List.Sublist.refl _ | exact List.nil_sublist _ | refine List.Sublist.cons_cons _ ?_ | refine List.Sublist.cons _ ?_)) (V_loadIv d (by kernel_rfl) rfl (by repeat (first | exact At.head | exact AtW.at ‹_› (by simp) | apply At.tail)) (by simp) (by (try simp only [m1_len, m2_len, m3_len]); omega)) ?_
      refine WD.l ?_
      refine WO.val rfl rfl (by repeat (first | exact List.Sublist.refl _ | exact List.nil_sublist _ | refine List.Sublist.cons_cons _ ?_ | refine List.Sublist.cons _ ?_)) (V_loadIv a (by kernel_rfl) rfl (by repeat (first | exact At.head | exact AtW.at ‹_› (by simp) | apply At.tail)) (by simp) (by (try simp only [m1_len, m2_len, m3_len]); omega)) ?_
      refine WD.q rfl rfl (V_xor rfl rfl) ?_
      refine WD.l ?_
      refine WO.cal rfl rfl (by repeat (first | exact List.Sublist.refl _ | exact List.nil_sublist _ | refine List.Sublist.cons_cons _ ?_ | refine List.Sublist.cons _ ?_)) (C_pure _ (by kernel_rfl) rfl (fun w hp => rturned_calls _ 16 w (by decide) (by decide))) ?_; rintro _ _ ⟨rfl, rfl⟩; refine ⟨by simp, ?_⟩
      refine WD.q rfl rfl (V_indexAddrS 1 (by kernel_rfl) rfl rfl (by omega) (by omega)) ?_
      refine WD.l ?_
      refine WO.eff rfl rfl (by repeat (first | exact List.Sublist.refl _ | exact List.nil_sublist _ | refine List.Sublist.cons_cons _ ?_ | refine List.Sublist.cons _ ?_)) (E_storeIv d (by kernel_rfl) rfl rfl (by repeat (first | exact Upd.here _ _ | apply Upd.there)) (by simp) (by (try simp only [m1_len, m2_len, m3_len]); omega)) ?_; rintro _ _ ⟨rfl, rfl⟩; refine ⟨by simp, ?_⟩; rw [m2_f]
      refine WD.done ?_
      exact WQ.pick (S' := [(0, _), (1, _), (2, _), (3, _), (4, _), (6, _)]) [0, 1, 2, 3, 4, 6] rfl hj
    ·
      refine WO.val rfl rfl (by repeat (first | exact List.Sublist.refl _ | exact List.nil_sublist _ | refine List.Sublist.cons_cons _ ?_ | refine List.Sublist.cons _ ?_)) (V_loadIv a (by kernel_rfl) rfl (by repeat (first | exact At.head | exact AtW.at ‹_› (by simp) | apply At.tail)) (by simp) (by (try simp only [m1_len, m2_len, m3_len]); omega)) ?_
      refine WD.l ?_
      refine WO.val rfl rfl (by repeat (first | exact List.Sublist.refl _ | exact List.nil_sublist _ | refine List.Sublist.cons_cons _ ?_ | refine List.Sublist.cons _ ?_)) (V_loadIv d (by kernel_rfl) rfl (by repeat (first | exact At.head | exact AtW.at ‹_› (by simp) | apply At.tail)) (by simp) (by (try simp only [m1_len, m2_len, m3_len]); omega)) ?_
      refine WD.q rfl rfl (V_xor rfl rfl) ?_
      refine WD.l ?_
      refine WO.cal rfl rfl (by repeat (first | exact List.Sublist.refl _ | exact List.nil_sublist _ | refine List.Sublist.cons_cons _ ?_ | refine List.Sublist.cons _ ?_)) (C_pure _ (by kernel_rfl) rfl (fun w hp => rturned_calls _ 16 w (by decide) (by decide))) ?_; rintro _ _ ⟨rfl, rfl⟩; refine ⟨by simp, ?_⟩
      refine WD.q rfl rfl (V_indexAddrS 1 (by kernel_rfl) rfl rfl (by omega) (by omega)) ?_
      refine WD.l ?_
      refine WO.eff rfl rfl (by repeat (first | exact List.Sublist.refl _ | exact List.nil_sublist _ | refine List.Sublist.cons_cons _ ?_ | refine List.Sublist.cons _ ?_)) (E_storeIv d (by kernel_rfl) rfl rfl (by repeat (first | exact Upd.here _ _ | apply Upd.there)) (by simp) (by (try simp only [m1_len, m2_len, m3_len]); omega)) ?_; rintro _ _ ⟨rfl, rfl⟩; refine ⟨by simp, ?_⟩; rw [m2_f]
      refine WD.done ?_
      exact WQ.pick (S' := [(0, _), (1, _), (2, _), (3, _), (4, _), (6, _)]) [0, 1, 2, 3, 4, 6] rfl hj
  refine WQ.then ?_
  refine W.seq ?_
  apply W.join
  · intro hj
    refine W.drawn (.q 0 (.q 1 (.q 2 (.q 3 (.q 4 (.q 6 (.q 7 (.q 8 (.l2 5 (.l 9 (.q 10 (.q 11 (.l 12 (.done))))) 9 (.l 5 (.q 10 (.q 11 (.l 12 (.done)))))))))))))) [] (by kernel_rfl) (fun _ a d _ _ h => by cases d <;> exact h) (by kernel_rfl) (by repeat (first | exact List.Sublist.refl _ | exact List.nil_sublist _ | refine List.Sublist.cons_cons _ ?_ | refine List.Sublist.cons _ ?_)) ?_
    refine WD.q rfl rfl (V_move rfl) ?_
    refine WD.q rfl rfl (V_move rfl) ?_
    refine WD.q rfl rfl (V_move rfl) ?_
    refine WD.q rfl rfl (V_move rfl) ?_
    refine WD.q rfl rfl (V_indexAddrS 1 (by kernel_rfl) rfl rfl (by omega) (by omega)) ?_
    refine WD.q rfl rfl (V_move rfl) ?_
    refine WD.q rfl rfl (V_move rfl) ?_
    refine WD.q rfl rfl (V_indexAddrS 1 (by kernel_rfl) rfl rfl (by omega) (by omega)) ?_
    refine WD.l2 ?_ ?_
    ·
      refine WO.val rfl rfl (by repeat (first | exact List.Sublist.refl _ | exact List.nil_sublist _ | refine List.Sublist.cons_cons _ ?_ | refine List.Sublist.cons _ ?_)) (V_loadIv c (by kernel_rfl) rfl (by repeat (first | exact At.head | exact AtW.at ‹_› (by simp) | apply At.tail)) (by simp) (by (try simp only [m1_len, m2_len, m3_len]); omega)) ?_
      refine WD.l ?_
      refine WO.val rfl rfl (by repeat (first | exact List.Sublist.refl _ | exact List.nil_sublist _ | refine List.Sublist.cons_cons _ ?_ | refine List.Sublist.cons _ ?_)) (V_loadIv d (by kernel_rfl) rfl (by repeat (first | exact At.head | exact AtW.at ‹_› (by simp) | apply At.tail)) (by simp) (by (try simp only [m1_len, m2_len, m3_len]); omega)) ?_
      refine WD.q rfl rfl (V_add rfl rfl) ?_
      refine WD.q rfl rfl (V_indexAddrS 1 (by kernel_rfl) rfl rfl (by omega) (by omega)) ?_
      refine WD.l ?_
      refine WO.eff rfl rfl (by repeat (first | exact List.Sublist.refl _ | exact List.nil_sublist _ | refine List.Sublist.cons_cons _ ?_ | refine List.Sublist.cons _ ?_)) (E_storeIv c (by kernel_rfl) rfl rfl (by repeat (first | exact Upd.here _ _ | apply Upd.there)) (by simp) (by (try simp only [m1_len, m2_len, m3_len]); omega)) ?_; rintro _ _ ⟨rfl, rfl⟩; refine ⟨by simp, ?_⟩; rw [m3_f]
      refine WD.done ?_
      exact WQ.pick (S' := [(0, _), (1, _), (2, _), (3, _), (4, _), (6, _)]) [0, 1, 2, 3, 4, 6] rfl hj
    ·
      refine WO.val rfl rfl (by repeat (first | exact List.Sublist.refl _ | exact List.nil_sublist _ | refine List.Sublist.cons_cons _ ?_ | refine List.Sublist.cons _ ?_)) (V_loadIv d (by kernel_rfl) rfl (by repeat (first | exact At.head | exact AtW.at ‹_› (by simp) | apply At.tail)) (by simp) (by (try simp only [m1_len, m2_len, m3_len]); omega)) ?_
      refine WD.l ?_
      refine WO.val rfl rfl (by repeat (first | exact List.Sublist.refl _ | exact List.nil_sublist _ | refine List.Sublist.cons_cons _ ?_ | refine List.Sublist.cons _ ?_)) (V_loadIv c (by kernel_rfl) rfl (by repeat (first | exact At.head | exact AtW.at ‹_› (by simp) | apply At.tail)) (by simp) (by (try simp only [m1_len, m2_len, m3_len]); omega)) ?_
      refine WD.q rfl rfl (V_add rfl rfl) ?_
      refine WD.q rfl rfl (V_indexAddrS 1 (by kernel_rfl) rfl rfl (by omega) (by omega)) ?_
      refine WD.l ?_
      refine WO.eff rfl rfl (by repeat (first | exact List.Sublist.refl _ | exact List.nil_sublist _ | refine List.Sublist.cons_cons _ ?_ | refine List.Sublist.cons _ ?_)) (E_storeIv c (by kernel_rfl) rfl rfl (by repeat (first | exact Upd.here _ _ | apply Upd.there)) (by simp) (by (try simp only [m1_len, m2_len, m3_len]); omega)) ?_; rintro _ _ ⟨rfl, rfl⟩; refine ⟨by simp, ?_⟩; rw [m3_f]
      refine WD.done ?_
      exact WQ.pick (S' := [(0, _), (1, _), (2, _), (3, _), (4, _), (6, _)]) [0, 1, 2, 3, 4, 6] rfl hj
  refine WQ.then ?_
  refine W.seq ?_
  apply W.join
  · intro hj
    refine W.drawn (.q 0 (.q 1 (.q 2 (.q 3 (.q 4 (.q 6 (.q 7 (.q 8 (.l2 5 (.l 9 (.q 10 (.l 11 (.q 12 (.l 13 (.done)))))) 9 (.l 5 (.q 10 (.l 11 (.q 12 (.l 13 (.done))))))))))))))) [] (by kernel_rfl) (fun _ a d _ _ h => by cases d <;> exact h) (by kernel_rfl) (by repeat (first | exact List.Sublist.refl _ | exact List.nil_sublist _ | refine List.Sublist.cons_cons _ ?_ | refine List.Sublist.cons _ ?_)) ?_
    refine WD.q rfl rfl (V_move rfl) ?_
    refine WD.q rfl rfl (V_move rfl) ?_
    refine WD.q rfl rfl (V_move rfl) ?_
    refine WD.q rfl rfl (V_move rfl) ?_
    refine WD.q rfl rfl (V_indexAddrS 1 (by kernel_rfl) rfl rfl (by omega) (by omega)) ?_
    refine WD.q rfl rfl (V_move rfl) ?_
    refine WD.q rfl rfl (V_move rfl) ?_
    refine WD.q rfl rfl (V_indexAddrS 1 (by kernel_rfl) rfl rfl (by omega) (by omega)) ?_
    refine WD.l2 ?_ ?_
    ·
      refine WO.val rfl rfl (by repeat (first | exact List.Sublist.refl _ | exact List.nil_sublist _ | refine List.Sublist.cons_cons _ ?_ | refine List.Sublist.cons _ ?_)) (V_loadIv b (by kernel_rfl) rfl (by repeat (first | exact At.head | exact AtW.at ‹_› (by simp) | apply At.tail)) (by simp) (by (try simp only [m1_len, m2_len, m3_len]); omega)) ?_
      refine WD.l ?_
      refine WO.val rfl rfl (by repeat (first | exact List.Sublist.refl _ | exact List.nil_sublist _ | refine List.Sublist.cons_cons _ ?_ | refine List.Sublist.cons _ ?_)) (V_loadIv c (by kernel_rfl) rfl (by repeat (first | exact At.head | exact AtW.at ‹_› (by simp) | apply At.tail)) (by simp) (by (try simp only [m1_len, m2_len, m3_len]); omega)) ?_
      refine WD.q rfl rfl (V_xor rfl rfl) ?_
      refine WD.l ?_
      refine WO.cal rfl rfl (by repeat (first | exact List.Sublist.refl _ | exact List.nil_sublist _ | refine List.Sublist.cons_cons _ ?_ | refine List.Sublist.cons _ ?_)) (C_pure _ (by kernel_rfl) rfl (fun w hp => rturned_calls _ 12 w (by decide) (by decide))) ?_; rintro _ _ ⟨rfl, rfl⟩; refine ⟨by simp, ?_⟩
      refine WD.q rfl rfl (V_indexAddrS 1 (by kernel_rfl) rfl rfl (by omega) (by omega)) ?_
      refine WD.l ?_
      refine WO.eff rfl rfl (by repeat (first | exact List.Sublist.refl _ | exact List.nil_sublist _ | refine List.Sublist.cons_cons _ ?_ | refine List.Sublist.cons _ ?_)) (E_storeIv b (by kernel_rfl) rfl rfl (by repeat (first | exact Upd.here _ _ | apply Upd.there)) (by simp) (by (try simp only [m1_len, m2_len, m3_len]); omega)) ?_; rintro _ _ ⟨rfl, rfl⟩; refine ⟨by simp, ?_⟩; rw [m2_f]
      refine WD.done ?_
      exact WQ.pick (S' := [(0, _), (1, _), (2, _), (3, _), (4, _), (6, _)]) [0, 1, 2, 3, 4, 6] rfl hj
    ·
      refine WO.val rfl rfl (by repeat (first | exact List.Sublist.refl _ | exact List.nil_sublist _ | refine List.Sublist.cons_cons _ ?_ | refine List.Sublist.cons _ ?_)) (V_loadIv c (by kernel_rfl) rfl (by repeat (first | exact At.head | exact AtW.at ‹_› (by simp) | apply At.tail)) (by simp) (by (try simp only [m1_len, m2_len, m3_len]); omega)) ?_
      refine WD.l ?_
      refine WO.val rfl rfl (by repeat (first | exact List.Sublist.refl _ | exact List.nil_sublist _ | refine List.Sublist.cons_cons _ ?_ | refine List.Sublist.cons _ ?_)) (V_loadIv b (by kernel_rfl) rfl (by repeat (first | exact At.head | exact AtW.at ‹_› (by simp) | apply At.tail)) (by simp) (by (try simp only [m1_len, m2_len, m3_len]); omega)) ?_
      refine WD.q rfl rfl (V_xor rfl rfl) ?_
      refine WD.l ?_
      refine WO.cal rfl rfl (by repeat (first | exact List.Sublist.refl _ | exact List.nil_sublist _ | refine List.Sublist.cons_cons _ ?_ | refine List.Sublist.cons _ ?_)) (C_pure _ (by kernel_rfl) rfl (fun w hp => rturned_calls _ 12 w (by decide) (by decide))) ?_; rintro _ _ ⟨rfl, rfl⟩; refine ⟨by simp, ?_⟩
      refine WD.q rfl rfl (V_indexAddrS 1 (by kernel_rfl) rfl rfl (by omega) (by omega)) ?_
      refine WD.l ?_
      refine WO.eff rfl rfl (by repeat (first | exact List.Sublist.refl _ | exact List.nil_sublist _ | refine List.Sublist.cons_cons _ ?_ | refine List.Sublist.cons _ ?_)) (E_storeIv b (by kernel_rfl) rfl rfl (by repeat (first | exact Upd.here _ _ | apply Upd.there)) (by simp) (by (try simp only [m1_len, m2_len, m3_len]); omega)) ?_; rintro _ _ ⟨rfl, rfl⟩; refine ⟨by simp, ?_⟩; rw [m2_f]
      refine WD.done ?_
      exact WQ.pick (S' := [(0, _), (1, _), (2, _), (3, _), (4, _), (6, _)]) [0, 1, 2, 3, 4, 6] rfl hj
  refine WQ.then ?_
  refine W.seq ?_
  apply W.join
  · intro hj
    refine W.drawn (.q 0 (.q 1 (.q 2 (.q 3 (.q 4 (.q 6 (.q 7 (.q 8 (.q 11 (.l2 5 (.l 9 (.q 10 (.q 12 (.q 13 (.l 14 (.done)))))) 9 (.l 5 (.q 10 (.q 12 (.q 13 (.l 14 (.done)))))))))))))))) [] (by kernel_rfl) (fun _ a d _ _ h => by cases d <;> exact h) (by kernel_rfl) (by repeat (first | exact List.Sublist.refl _ | exact List.nil_sublist _ | refine List.Sublist.cons_cons _ ?_ | refine List.Sublist.cons _ ?_)) ?_
    refine WD.q rfl rfl (V_move rfl) ?_
    refine WD.q rfl rfl (V_move rfl) ?_
    refine WD.q rfl rfl (V_move rfl) ?_
    refine WD.q rfl rfl (V_move rfl) ?_
    refine WD.q rfl rfl (V_indexAddrS 1 (by kernel_rfl) rfl rfl (by omega) (by omega)) ?_
    refine WD.q rfl rfl (V_move rfl) ?_
    refine WD.q rfl rfl (V_move rfl) ?_
    refine WD.q rfl rfl (V_indexAddrS 1 (by kernel_rfl) rfl rfl (by omega) (by omega)) ?_
    refine WD.q rfl rfl (V_move rfl) ?_
    refine WD.l2 ?_ ?_
    ·
      refine WO.val rfl rfl (by repeat (first | exact List.Sublist.refl _ | exact List.nil_sublist _ | refine List.Sublist.cons_cons _ ?_ | refine List.Sublist.cons _ ?_)) (V_loadIv a (by kernel_rfl) rfl (by repeat (first | exact At.head | exact AtW.at ‹_› (by simp) | apply At.tail)) (by simp) (by (try simp only [m1_len, m2_len, m3_len]); omega)) ?_
      refine WD.l ?_
      refine WO.val rfl rfl (by repeat (first | exact List.Sublist.refl _ | exact List.nil_sublist _ | refine List.Sublist.cons_cons _ ?_ | refine List.Sublist.cons _ ?_)) (V_loadIv b (by kernel_rfl) rfl (by repeat (first | exact At.head | exact AtW.at ‹_› (by simp) | apply At.tail)) (by simp) (by (try simp only [m1_len, m2_len, m3_len]); omega)) ?_
      refine WD.q rfl rfl (V_add rfl rfl) ?_
      refine WD.q rfl rfl (V_add rfl rfl) ?_
      refine WD.q rfl rfl (V_indexAddrS 1 (by kernel_rfl) rfl rfl (by omega) (by omega)) ?_
      refine WD.l ?_
      refine WO.eff rfl rfl (by repeat (first | exact List.Sublist.refl _ | exact List.nil_sublist _ | refine List.Sublist.cons_cons _ ?_ | refine List.Sublist.cons _ ?_)) (E_storeIv a (by kernel_rfl) rfl rfl (by repeat (first | exact Upd.here _ _ | apply Upd.there)) (by simp) (by (try simp only [m1_len, m2_len, m3_len]); omega)) ?_; rintro _ _ ⟨rfl, rfl⟩; refine ⟨by simp, ?_⟩; rw [m1_r]
      refine WD.done ?_
      exact WQ.pick (S' := [(0, _), (1, _), (2, _), (3, _), (4, _)]) [0, 1, 2, 3, 4] rfl hj
    ·
      refine WO.val rfl rfl (by repeat (first | exact List.Sublist.refl _ | exact List.nil_sublist _ | refine List.Sublist.cons_cons _ ?_ | refine List.Sublist.cons _ ?_)) (V_loadIv b (by kernel_rfl) rfl (by repeat (first | exact At.head | exact AtW.at ‹_› (by simp) | apply At.tail)) (by simp) (by (try simp only [m1_len, m2_len, m3_len]); omega)) ?_
      refine WD.l ?_
      refine WO.val rfl rfl (by repeat (first | exact List.Sublist.refl _ | exact List.nil_sublist _ | refine List.Sublist.cons_cons _ ?_ | refine List.Sublist.cons _ ?_)) (V_loadIv a (by kernel_rfl) rfl (by repeat (first | exact At.head | exact AtW.at ‹_› (by simp) | apply At.tail)) (by simp) (by (try simp only [m1_len, m2_len, m3_len]); omega)) ?_
      refine WD.q rfl rfl (V_add rfl rfl) ?_
      refine WD.q rfl rfl (V_add rfl rfl) ?_
      refine WD.q rfl rfl (V_indexAddrS 1 (by kernel_rfl) rfl rfl (by omega) (by omega)) ?_
      refine WD.l ?_
      refine WO.eff rfl rfl (by repeat (first | exact List.Sublist.refl _ | exact List.nil_sublist _ | refine List.Sublist.cons_cons _ ?_ | refine List.Sublist.cons _ ?_)) (E_storeIv a (by kernel_rfl) rfl rfl (by repeat (first | exact Upd.here _ _ | apply Upd.there)) (by simp) (by (try simp only [m1_len, m2_len, m3_len]); omega)) ?_; rintro _ _ ⟨rfl, rfl⟩; refine ⟨by simp, ?_⟩; rw [m1_r]
      refine WD.done ?_
      exact WQ.pick (S' := [(0, _), (1, _), (2, _), (3, _), (4, _)]) [0, 1, 2, 3, 4] rfl hj
  refine WQ.then ?_
  refine W.seq ?_
  apply W.join
  · intro hj
    refine W.drawn (.q 0 (.q 1 (.q 2 (.q 3 (.q 4 (.q 6 (.q 7 (.q 8 (.l2 5 (.l 9 (.q 10 (.l 11 (.q 12 (.l 13 (.done)))))) 9 (.l 5 (.q 10 (.l 11 (.q 12 (.l 13 (.done))))))))))))))) [] (by kernel_rfl) (fun _ a d _ _ h => by cases d <;> exact h) (by kernel_rfl) (by repeat (first | exact List.Sublist.refl _ | exact List.nil_sublist _ | refine List.Sublist.cons_cons _ ?_ | refine List.Sublist.cons _ ?_)) ?_
    refine WD.q rfl rfl (V_move rfl) ?_
    refine WD.q rfl rfl (V_move rfl) ?_
    refine WD.q rfl rfl (V_move rfl) ?_
    refine WD.q rfl rfl (V_move rfl) ?_
    refine WD.q rfl rfl (V_indexAddrS 1 (by kernel_rfl) rfl rfl (by omega) (by omega)) ?_
    refine WD.q rfl rfl (V_move rfl) ?_
    refine WD.q rfl rfl (V_move rfl) ?_
    refine WD.q rfl rfl (V_indexAddrS 1 (by kernel_rfl) rfl rfl (by omega) (by omega)) ?_
    refine WD.l2 ?_ ?_
    ·
      refine WO.val rfl rfl (by repeat (first | exact List.Sublist.refl _ | exact List.nil_sublist _ | refine List.Sublist.cons_cons _ ?_ | refine List.Sublist.cons _ ?_)) (V_loadIv d (by kernel_rfl) rfl (by repeat (first | exact At.head | exact AtW.at ‹_› (by simp) | apply At.tail)) (by simp) (by (try simp only [m1_len, m2_len, m3_len]); omega)) ?_
      refine WD.l ?_
      refine WO.val rfl rfl (by repeat (first | exact List.Sublist.refl _ | exact List.nil_sublist _ | refine List.Sublist.cons_cons _ ?_ | refine List.Sublist.cons _ ?_)) (V_loadIv a (by kernel_rfl) rfl (by repeat (first | exact At.head | exact AtW.at ‹_› (by simp) | apply At.tail)) (by simp) (by (try simp only [m1_len, m2_len, m3_len]); omega)) ?_
      refine WD.q rfl rfl (V_xor rfl rfl) ?_
      refine WD.l ?_
      refine WO.cal rfl rfl (by repeat (first | exact List.Sublist.refl _ | exact List.nil_sublist _ | refine List.Sublist.cons_cons _ ?_ | refine List.Sublist.cons _ ?_)) (C_pure _ (by kernel_rfl) rfl (fun w hp => rturned_calls _ 8 w (by decide) (by decide))) ?_; rintro _ _ ⟨rfl, rfl⟩; refine ⟨by simp, ?_⟩
      refine WD.q rfl rfl (V_indexAddrS 1 (by kernel_rfl) rfl rfl (by omega) (by omega)) ?_
      refine WD.l ?_
      refine WO.eff rfl rfl (by repeat (first | exact List.Sublist.refl _ | exact List.nil_sublist _ | refine List.Sublist.cons_cons _ ?_ | refine List.Sublist.cons _ ?_)) (E_storeIv d (by kernel_rfl) rfl rfl (by repeat (first | exact Upd.here _ _ | apply Upd.there)) (by simp) (by (try simp only [m1_len, m2_len, m3_len]); omega)) ?_; rintro _ _ ⟨rfl, rfl⟩; refine ⟨by simp, ?_⟩; rw [m2_f]
      refine WD.done ?_
      exact WQ.pick (S' := [(0, _), (1, _), (2, _), (3, _), (4, _)]) [0, 1, 2, 3, 4] rfl hj
    ·
      refine WO.val rfl rfl (by repeat (first | exact List.Sublist.refl _ | exact List.nil_sublist _ | refine List.Sublist.cons_cons _ ?_ | refine List.Sublist.cons _ ?_)) (V_loadIv a (by kernel_rfl) rfl (by repeat (first | exact At.head | exact AtW.at ‹_› (by simp) | apply At.tail)) (by simp) (by (try simp only [m1_len, m2_len, m3_len]); omega)) ?_
      refine WD.l ?_
      refine WO.val rfl rfl (by repeat (first | exact List.Sublist.refl _ | exact List.nil_sublist _ | refine List.Sublist.cons_cons _ ?_ | refine List.Sublist.cons _ ?_)) (V_loadIv d (by kernel_rfl) rfl (by repeat (first | exact At.head | exact AtW.at ‹_› (by simp) | apply At.tail)) (by simp) (by (try simp only [m1_len, m2_len, m3_len]); omega)) ?_
      refine WD.q rfl rfl (V_xor rfl rfl) ?_
      refine WD.l ?_
      refine WO.cal rfl rfl (by repeat (first | exact List.Sublist.refl _ | exact List.nil_sublist _ | refine List.Sublist.cons_cons _ ?_ | refine List.Sublist.cons _ ?_)) (C_pure _ (by kernel_rfl) rfl (fun w hp => rturned_calls _ 8 w (by decide) (by decide))) ?_; rintro _ _ ⟨rfl, rfl⟩; refine ⟨by simp, ?_⟩
      refine WD.q rfl rfl (V_indexAddrS 1 (by kernel_rfl) rfl rfl (by omega) (by omega)) ?_
      refine WD.l ?_
      refine WO.eff rfl rfl (by repeat (first | exact List.Sublist.refl _ | exact List.nil_sublist _ | refine List.Sublist.cons_cons _ ?_ | refine List.Sublist.cons _ ?_)) (E_storeIv d (by kernel_rfl) rfl rfl (by repeat (first | exact Upd.here _ _ | apply Upd.there)) (by simp) (by (try simp only [m1_len, m2_len, m3_len]); omega)) ?_; rintro _ _ ⟨rfl, rfl⟩; refine ⟨by simp, ?_⟩; rw [m2_f]
      refine WD.done ?_
      exact WQ.pick (S' := [(0, _), (1, _), (2, _), (3, _), (4, _)]) [0, 1, 2, 3, 4] rfl hj
  refine WQ.then ?_
  refine W.seq ?_
  apply W.join
  · intro hj
    refine W.drawn (.q 0 (.q 1 (.q 2 (.q 3 (.q 4 (.q 6 (.q 7 (.q 8 (.l2 5 (.l 9 (.q 10 (.q 11 (.l 12 (.done))))) 9 (.l 5 (.q 10 (.q 11 (.l 12 (.done)))))))))))))) [] (by kernel_rfl) (fun _ a d _ _ h => by cases d <;> exact h) (by kernel_rfl) (by repeat (first | exact List.Sublist.refl _ | exact List.nil_sublist _ | refine List.Sublist.cons_cons _ ?_ | refine List.Sublist.cons _ ?_)) ?_
    refine WD.q rfl rfl (V_move rfl) ?_
    refine WD.q rfl rfl (V_move rfl) ?_
    refine WD.q rfl rfl (V_move rfl) ?_
    refine WD.q rfl rfl (V_move rfl) ?_
    refine WD.q rfl rfl (V_indexAddrS 1 (by kernel_rfl) rfl rfl (by omega) (by omega)) ?_
    refine WD.q rfl rfl (V_move rfl) ?_
    refine WD.q rfl rfl (V_move rfl) ?_
    refine WD.q rfl rfl (V_indexAddrS 1 (by kernel_rfl) rfl rfl (by omega) (by omega)) ?_
    refine WD.l2 ?_ ?_
    ·
      refine WO.val rfl rfl (by repeat (first | exact List.Sublist.refl _ | exact List.nil_sublist _ | refine List.Sublist.cons_cons _ ?_ | refine List.Sublist.cons _ ?_)) (V_loadIv c (by kernel_rfl) rfl (by repeat (first | exact At.head | exact AtW.at ‹_› (by simp) | apply At.tail)) (by simp) (by (try simp only [m1_len, m2_len, m3_len]); omega)) ?_
      refine WD.l ?_
      refine WO.val rfl rfl (by repeat (first | exact List.Sublist.refl _ | exact List.nil_sublist _ | refine List.Sublist.cons_cons _ ?_ | refine List.Sublist.cons _ ?_)) (V_loadIv d (by kernel_rfl) rfl (by repeat (first | exact At.head | exact AtW.at ‹_› (by simp) | apply At.tail)) (by simp) (by (try simp only [m1_len, m2_len, m3_len]); omega)) ?_
      refine WD.q rfl rfl (V_add rfl rfl) ?_
      refine WD.q rfl rfl (V_indexAddrS 1 (by kernel_rfl) rfl rfl (by omega) (by omega)) ?_
      refine WD.l ?_
      refine WO.eff rfl rfl (by repeat (first | exact List.Sublist.refl _ | exact List.nil_sublist _ | refine List.Sublist.cons_cons _ ?_ | refine List.Sublist.cons _ ?_)) (E_storeIv c (by kernel_rfl) rfl rfl (by repeat (first | exact Upd.here _ _ | apply Upd.there)) (by simp) (by (try simp only [m1_len, m2_len, m3_len]); omega)) ?_; rintro _ _ ⟨rfl, rfl⟩; refine ⟨by simp, ?_⟩; rw [m3_f]
      refine WD.done ?_
      exact WQ.pick (S' := [(0, _), (1, _), (2, _), (3, _), (4, _)]) [0, 1, 2, 3, 4] rfl hj
    ·
      refine WO.val rfl rfl (by repeat (first | exact List.Sublist.refl _ | exact List.nil_sublist _ | refine List.Sublist.cons_cons _ ?_ | refine List.Sublist.cons _ ?_)) (V_loadIv d (by kernel_rfl) rfl (by repeat (first | exact At.head | exact AtW.at ‹_› (by simp) | apply At.tail)) (by simp) (by (try simp only [m1_len, m2_len, m3_len]); omega)) ?_
      refine WD.l ?_
      refine WO.val rfl rfl (by repeat (first | exact List.Sublist.refl _ | exact List.nil_sublist _ | refine List.Sublist.cons_cons _ ?_ | refine List.Sublist.cons _ ?_)) (V_loadIv c (by kernel_rfl) rfl (by repeat (first | exact At.head | exact AtW.at ‹_› (by simp) | apply At.tail)) (by simp) (by (try simp only [m1_len, m2_len, m3_len]); omega)) ?_
      refine WD.q rfl rfl (V_add rfl rfl) ?_
      refine WD.q rfl rfl (V_indexAddrS 1 (by kernel_rfl) rfl rfl (by omega) (by omega)) ?_
      refine WD.l ?_
      refine WO.eff rfl rfl (by repeat (first | exact List.Sublist.refl _ | exact List.nil_sublist _ | refine List.Sublist.cons_cons _ ?_ | refine List.Sublist.cons _ ?_)) (E_storeIv c (by kernel_rfl) rfl rfl (by repeat (first | exact Upd.here _ _ | apply Upd.there)) (by simp) (by (try simp only [m1_len, m2_len, m3_len]); omega)) ?_; rintro _ _ ⟨rfl, rfl⟩; refine ⟨by simp, ?_⟩; rw [m3_f]
      refine WD.done ?_
      exact WQ.pick (S' := [(0, _), (1, _), (2, _), (3, _), (4, _)]) [0, 1, 2, 3, 4] rfl hj
  refine WQ.then ?_
  apply W.join
  · intro hj
    refine W.drawn (.q 0 (.q 1 (.q 2 (.q 3 (.q 4 (.q 6 (.q 7 (.q 8 (.l2 5 (.l 9 (.q 10 (.l 11 (.q 12 (.l 13 (.done)))))) 9 (.l 5 (.q 10 (.l 11 (.q 12 (.l 13 (.done))))))))))))))) [] (by kernel_rfl) (fun _ a d _ _ h => by cases d <;> exact h) (by kernel_rfl) (by repeat (first | exact List.Sublist.refl _ | exact List.nil_sublist _ | refine List.Sublist.cons_cons _ ?_ | refine List.Sublist.cons _ ?_)) ?_
    refine WD.q rfl rfl (V_move rfl) ?_
    refine WD.q rfl rfl (V_move rfl) ?_
    refine WD.q rfl rfl (V_move rfl) ?_
    refine WD.q rfl rfl (V_move rfl) ?_
    refine WD.q rfl rfl (V_indexAddrS 1 (by kernel_rfl) rfl rfl (by omega) (by omega)) ?_
    refine WD.q rfl rfl (V_move rfl) ?_
    refine WD.q rfl rfl (V_move rfl) ?_
    refine WD.q rfl rfl (V_indexAddrS 1 (by kernel_rfl) rfl rfl (by omega) (by omega)) ?_
    refine WD.l2 ?_ ?_
    ·
      refine WO.val rfl rfl (by repeat (first | exact List.Sublist.refl _ | exact List.nil_sublist _ | refine List.Sublist.cons_cons _ ?_ | refine List.Sublist.cons _ ?_)) (V_loadIv b (by kernel_rfl) rfl (by repeat (first | exact At.head | exact AtW.at ‹_› (by simp) | apply At.tail)) (by simp) (by (try simp only [m1_len, m2_len, m3_len]); omega)) ?_
      refine WD.l ?_
      refine WO.val rfl rfl (by repeat (first | exact List.Sublist.refl _ | exact List.nil_sublist _ | refine List.Sublist.cons_cons _ ?_ | refine List.Sublist.cons _ ?_)) (V_loadIv c (by kernel_rfl) rfl (by repeat (first | exact At.head | exact AtW.at ‹_› (by simp) | apply At.tail)) (by simp) (by (try simp only [m1_len, m2_len, m3_len]); omega)) ?_
      refine WD.q rfl rfl (V_xor rfl rfl) ?_
      refine WD.l ?_
      refine WO.cal rfl rfl (by repeat (first | exact List.Sublist.refl _ | exact List.nil_sublist _ | refine List.Sublist.cons_cons _ ?_ | refine List.Sublist.cons _ ?_)) (C_pure _ (by kernel_rfl) rfl (fun w hp => rturned_calls _ 7 w (by decide) (by decide))) ?_; rintro _ _ ⟨rfl, rfl⟩; refine ⟨by simp, ?_⟩
      refine WD.q rfl rfl (V_indexAddrS 1 (by kernel_rfl) rfl rfl (by omega) (by omega)) ?_
      refine WD.l ?_
      refine WO.eff rfl rfl (by repeat (first | exact List.Sublist.refl _ | exact List.nil_sublist _ | refine List.Sublist.cons_cons _ ?_ | refine List.Sublist.cons _ ?_)) (E_storeIv b (by kernel_rfl) rfl rfl (by repeat (first | exact Upd.here _ _ | apply Upd.there)) (by simp) (by (try simp only [m1_len, m2_len, m3_len]); omega)) ?_; rintro _ _ ⟨rfl, rfl⟩; refine ⟨by simp, ?_⟩; rw [m2_f]
      refine WD.done ?_
      exact WQ.pick (S' := [(0, _), (1, _), (2, _), (3, _), (4, _)]) [0, 1, 2, 3, 4] rfl hj
    ·
      refine WO.val rfl rfl (by repeat (first | exact List.Sublist.refl _ | exact List.nil_sublist _ | refine List.Sublist.cons_cons _ ?_ | refine List.Sublist.cons _ ?_)) (V_loadIv c (by kernel_rfl) rfl (by repeat (first | exact At.head | exact AtW.at ‹_› (by simp) | apply At.tail)) (by simp) (by (try simp only [m1_len, m2_len, m3_len]); omega)) ?_
      refine WD.l ?_
      refine WO.val rfl rfl (by repeat (first | exact List.Sublist.refl _ | exact List.nil_sublist _ | refine List.Sublist.cons_cons _ ?_ | refine List.Sublist.cons _ ?_)) (V_loadIv b (by kernel_rfl) rfl (by repeat (first | exact At.head | exact AtW.at ‹_› (by simp) | apply At.tail)) (by simp) (by (try simp only [m1_len, m2_len, m3_len]); omega)) ?_
      refine WD.q rfl rfl (V_xor rfl rfl) ?_
      refine WD.l ?_
      refine WO.cal rfl rfl (by repeat (first | exact List.Sublist.refl _ | exact List.nil_sublist _ | refine List.Sublist.cons_cons _ ?_ | refine List.Sublist.cons _ ?_)) (C_pure _ (by kernel_rfl) rfl (fun w hp => rturned_calls _ 7 w (by decide) (by decide))) ?_; rintro _ _ ⟨rfl, rfl⟩; refine ⟨by simp, ?_⟩
      refine WD.q rfl rfl (V_indexAddrS 1 (by kernel_rfl) rfl rfl (by omega) (by omega)) ?_
      refine WD.l ?_
      refine WO.eff rfl rfl (by repeat (first | exact List.Sublist.refl _ | exact List.nil_sublist _ | refine List.Sublist.cons_cons _ ?_ | refine List.Sublist.cons _ ?_)) (E_storeIv b (by kernel_rfl) rfl rfl (by repeat (first | exact Upd.here _ _ | apply Upd.there)) (by simp) (by (try simp only [m1_len, m2_len, m3_len]); omega)) ?_; rintro _ _ ⟨rfl, rfl⟩; refine ⟨by simp, ?_⟩; rw [m2_f]
      refine WD.done ?_
      exact WQ.pick (S' := [(0, _), (1, _), (2, _), (3, _), (4, _)]) [0, 1, 2, 3, 4] rfl hj
  refine WQ.ret0 (.inr rfl) Tryz.results161 ?_
  intro w' hp; exact ⟨rfl, hp⟩

theorem first_calls (w : World) : Calls Tryz.prog 125 ([] : List Value).toArray w fun e w' => e = .returned (AG [(8, iv .u32 firstL)]) ∧ HP w w' [] [] := by
  refine calls_of_W Tryz.func125 rfl Tryz.ntmps125 rfl rfl (HP.refl w []) ?_
  refine W.seq ?_
  refine W.region ?_
  refine WL.new rfl (E_alloc (zs := [(8, List.replicate 8 (.int .u32 0))]) ⟨by kernel_rfl, by repeat (first | exact Fit.nil | refine Fit.mk (by first | rfl | (simp; done) | (simp [iv_len]; done) | simp [iv_len, *]) ?_)⟩) ?_; intro b0
  refine WL.nil ?_
  refine WQ.then ?_
  refine W.seq ?_
  refine W.region ?_
  refine WL.val rfl (V_buildI (zs := [(8, List.replicate 8 (.int .u32 0))]) 8 (by kernel_rfl) ⟨by kernel_rfl, by repeat (first | exact Fit.nil | refine Fit.mk (by first | rfl | (simp; done) | (simp [iv_len]; done) | simp [iv_len, *]) ?_)⟩ (by simp [flat]) rfl rfl (by first | exact iv_one | simp [one])) ?_
  refine WL.storeA 8 (by kernel_rfl) rfl rfl (by first | rfl | (simp [flat]; done) | (simp [flat, iv_len]; done) | simp [flat, iv_len, *]) (by repeat (first | exact Fit.nil | refine Fit.mk (by first | rfl | (simp; done) | (simp [iv_len]; done) | simp [iv_len, *]) ?_)) (by first | (simp [flat, one]; done) | simp [flat, iv, one]) (by repeat (first | exact Upd.here _ _ | apply Upd.there)) (by rfl) ?_
  refine WL.nil ?_
  refine WQ.then ?_
  refine W.ret ?_
  refine WQ.ret1 Tryz.results125 (.cellA 8 (by kernel_rfl) rfl (by repeat (first | exact At.head | exact AtW.at ‹_› (by simp) | apply At.tail)) (by rfl)) ?_
  intro w' hp; exact ⟨rfl, hp.forget⟩

theorem rfirst_calls (w : World) : Calls Tryz.prog 143 ([] : List Value).toArray w fun e w' => ∃ r : Nat, True ∧ e = .returned (.slice (some ⟨r, 0, none⟩) 8 8) ∧ HP w w' [] [(r, .cells [(8, iv .u32 firstL), (8 - 8, [])] 223)] := by
  refine calls_of_W Tryz.func143 rfl Tryz.ntmps143 rfl rfl (HP.refl w []) ?_
  refine W.seq ?_
  refine W.region ?_
  refine WL.as rfl rfl ?_
  refine WL.nil ?_
  refine WQ.then ?_
  refine W.seq ?_
  refine W.region ?_
  refine WL.bslice 223 4 rfl (by kernel_rfl) rfl rfl (by simp [one]) (by decide) ?_; intro b1
  refine WL.as rfl rfl ?_
  refine WL.nil ?_
  refine WQ.then ?_
  refine W.ret ?_
  refine WQ.ret1 Tryz.results143 (.tmp rfl) ?_
  intro w' hp; exact ⟨b1, trivial, rfl, hp⟩

set_option maxHeartbeats 1000000 in
theorem rows_calls (w : World) : Calls Tryz.prog 141 ([] : List Value).toArray w fun e w' => ∃ r : Nat, True ∧ e = .returned (.pointer (some ⟨r, 0, none⟩)) ∧ HP w w' [] [(r, .cells [(160, iv .u8 sigAll)] 259)] := by
  refine calls_of_W Tryz.func141 rfl Tryz.ntmps141 rfl rfl (HP.refl w []) ?_
  refine W.seq ?_
  refine W.region ?_
  refine WL.as rfl rfl ?_
  refine WL.nil ?_
  refine WQ.then ?_
  refine W.seq ?_
  refine W.region ?_
  refine WL.val rfl (V_buildI (zs := [(16, List.replicate 16 (.int .u8 0))]) 16 (by kernel_rfl) ⟨by kernel_rfl, by repeat (first | exact Fit.nil | refine Fit.mk (by first | rfl | (simp; done) | (simp [iv_len]; done) | simp [iv_len, *]) ?_)⟩ (by simp [flat]) rfl rfl (by first | exact iv_one | simp [one])) ?_
  refine WL.val rfl (V_buildI (zs := [(16, List.replicate 16 (.int .u8 0))]) 16 (by kernel_rfl) ⟨by kernel_rfl, by repeat (first | exact Fit.nil | refine Fit.mk (by first | rfl | (simp; done) | (simp [iv_len]; done) | simp [iv_len, *]) ?_)⟩ (by simp [flat]) rfl rfl (by first | exact iv_one | simp [one])) ?_
  refine WL.val rfl (V_buildI (zs := [(16, List.replicate 16 (.int .u8 0))]) 16 (by kernel_rfl) ⟨by kernel_rfl, by repeat (first | exact Fit.nil | refine Fit.mk (by first | rfl | (simp; done) | (simp [iv_len]; done) | simp [iv_len, *]) ?_)⟩ (by simp [flat]) rfl rfl (by first | exact iv_one | simp [one])) ?_
  refine WL.val rfl (V_buildI (zs := [(16, List.replicate 16 (.int .u8 0))]) 16 (by kernel_rfl) ⟨by kernel_rfl, by repeat (first | exact Fit.nil | refine Fit.mk (by first | rfl | (simp; done) | (simp [iv_len]; done) | simp [iv_len, *]) ?_)⟩ (by simp [flat]) rfl rfl (by first | exact iv_one | simp [one])) ?_
  refine WL.val rfl (V_buildI (zs := [(16, List.replicate 16 (.int .u8 0))]) 16 (by kernel_rfl) ⟨by kernel_rfl, by repeat (first | exact Fit.nil | refine Fit.mk (by first | rfl | (simp; done) | (simp [iv_len]; done) | simp [iv_len, *]) ?_)⟩ (by simp [flat]) rfl rfl (by first | exact iv_one | simp [one])) ?_
  refine WL.val rfl (V_buildI (zs := [(16, List.replicate 16 (.int .u8 0))]) 16 (by kernel_rfl) ⟨by kernel_rfl, by repeat (first | exact Fit.nil | refine Fit.mk (by first | rfl | (simp; done) | (simp [iv_len]; done) | simp [iv_len, *]) ?_)⟩ (by simp [flat]) rfl rfl (by first | exact iv_one | simp [one])) ?_
  refine WL.val rfl (V_buildI (zs := [(16, List.replicate 16 (.int .u8 0))]) 16 (by kernel_rfl) ⟨by kernel_rfl, by repeat (first | exact Fit.nil | refine Fit.mk (by first | rfl | (simp; done) | (simp [iv_len]; done) | simp [iv_len, *]) ?_)⟩ (by simp [flat]) rfl rfl (by first | exact iv_one | simp [one])) ?_
  refine WL.val rfl (V_buildI (zs := [(16, List.replicate 16 (.int .u8 0))]) 16 (by kernel_rfl) ⟨by kernel_rfl, by repeat (first | exact Fit.nil | refine Fit.mk (by first | rfl | (simp; done) | (simp [iv_len]; done) | simp [iv_len, *]) ?_)⟩ (by simp [flat]) rfl rfl (by first | exact iv_one | simp [one])) ?_
  refine WL.val rfl (V_buildI (zs := [(16, List.replicate 16 (.int .u8 0))]) 16 (by kernel_rfl) ⟨by kernel_rfl, by repeat (first | exact Fit.nil | refine Fit.mk (by first | rfl | (simp; done) | (simp [iv_len]; done) | simp [iv_len, *]) ?_)⟩ (by simp [flat]) rfl rfl (by first | exact iv_one | simp [one])) ?_
  refine WL.val rfl (V_buildI (zs := [(16, List.replicate 16 (.int .u8 0))]) 16 (by kernel_rfl) ⟨by kernel_rfl, by repeat (first | exact Fit.nil | refine Fit.mk (by first | rfl | (simp; done) | (simp [iv_len]; done) | simp [iv_len, *]) ?_)⟩ (by simp [flat]) rfl rfl (by first | exact iv_one | simp [one])) ?_
  refine WL.val rfl (V_buildA (zs := [(16, List.replicate 16 (.int .u8 0)), (16, List.replicate 16 (.int .u8 0)), (16, List.replicate 16 (.int .u8 0)), (16, List.replicate 16 (.int .u8 0)), (16, List.replicate 16 (.int .u8 0)), (16, List.replicate 16 (.int .u8 0)), (16, List.replicate 16 (.int .u8 0)), (16, List.replicate 16 (.int .u8 0)), (16, List.replicate 16 (.int .u8 0)), (16, List.replicate 16 (.int .u8 0))]) 10 16 (by kernel_rfl) ⟨by kernel_rfl, by repeat (first | exact Fit.nil | refine Fit.mk (by first | rfl | (simp; done) | (simp [iv_len]; done) | simp [iv_len, *]) ?_)⟩ (.agg (k := 0) (n := 16) rfl (by repeat (first | exact Fit.nil | refine Fit.mk (by first | rfl | (simp; done) | (simp [iv_len]; done) | simp [iv_len, *]) ?_)) (by first | rfl | (simp [flat]; done) | (simp [flat, iv_len]; done) | simp [flat, iv_len, *]) ⟨rfl, rfl⟩ rfl (.agg (k := 16) (n := 16) rfl (by repeat (first | exact Fit.nil | refine Fit.mk (by first | rfl | (simp; done) | (simp [iv_len]; done) | simp [iv_len, *]) ?_)) (by first | rfl | (simp [flat]; done) | (simp [flat, iv_len]; done) | simp [flat, iv_len, *]) ⟨rfl, rfl⟩ rfl (.agg (k := 32) (n := 16) rfl (by repeat (first | exact Fit.nil | refine Fit.mk (by first | rfl | (simp; done) | (simp [iv_len]; done) | simp [iv_len, *]) ?_)) (by first | rfl | (simp [flat]; done) | (simp [flat, iv_len]; done) | simp [flat, iv_len, *]) ⟨rfl, rfl⟩ rfl (.agg (k := 48) (n := 16) rfl (by repeat (first | exact Fit.nil | refine Fit.mk (by first | rfl | (simp; done) | (simp [iv_len]; done) | simp [iv_len, *]) ?_)) (by first | rfl | (simp [flat]; done) | (simp [flat, iv_len]; done) | simp [flat, iv_len, *]) ⟨rfl, rfl⟩ rfl (.agg (k := 64) (n := 16) rfl (by repeat (first | exact Fit.nil | refine Fit.mk (by first | rfl | (simp; done) | (simp [iv_len]; done) | simp [iv_len, *]) ?_)) (by first | rfl | (simp [flat]; done) | (simp [flat, iv_len]; done) | simp [flat, iv_len, *]) ⟨rfl, rfl⟩ rfl (.agg (k := 80) (n := 16) rfl (by repeat (first | exact Fit.nil | refine Fit.mk (by first | rfl | (simp; done) | (simp [iv_len]; done) | simp [iv_len, *]) ?_)) (by first | rfl | (simp [flat]; done) | (simp [flat, iv_len]; done) | simp [flat, iv_len, *]) ⟨rfl, rfl⟩ rfl (.agg (k := 96) (n := 16) rfl (by repeat (first | exact Fit.nil | refine Fit.mk (by first | rfl | (simp; done) | (simp [iv_len]; done) | simp [iv_len, *]) ?_)) (by first | rfl | (simp [flat]; done) | (simp [flat, iv_len]; done) | simp [flat, iv_len, *]) ⟨rfl, rfl⟩ rfl (.agg (k := 112) (n := 16) rfl (by repeat (first | exact Fit.nil | refine Fit.mk (by first | rfl | (simp; done) | (simp [iv_len]; done) | simp [iv_len, *]) ?_)) (by first | rfl | (simp [flat]; done) | (simp [flat, iv_len]; done) | simp [flat, iv_len, *]) ⟨rfl, rfl⟩ rfl (.agg (k := 128) (n := 16) rfl (by repeat (first | exact Fit.nil | refine Fit.mk (by first | rfl | (simp; done) | (simp [iv_len]; done) | simp [iv_len, *]) ?_)) (by first | rfl | (simp [flat]; done) | (simp [flat, iv_len]; done) | simp [flat, iv_len, *]) ⟨rfl, rfl⟩ rfl (.agg (k := 144) (n := 16) rfl (by repeat (first | exact Fit.nil | refine Fit.mk (by first | rfl | (simp; done) | (simp [iv_len]; done) | simp [iv_len, *]) ?_)) (by first | rfl | (simp [flat]; done) | (simp [flat, iv_len]; done) | simp [flat, iv_len, *]) ⟨rfl, rfl⟩ rfl (.nil _)))))))))))) ?_
  refine WL.new rfl (E_boxA rfl (by repeat (first | exact Fit.nil | refine Fit.mk (by first | rfl | (simp; done) | (simp [iv_len]; done) | simp [iv_len, *]) ?_))) ?_; intro b12
  refine WL.as rfl rfl ?_
  refine WL.nil ?_
  refine WQ.then ?_
  refine W.ret ?_
  refine WQ.ret1 Tryz.results141 (.tmp rfl) ?_
  intro w' hp; refine ⟨b12, trivial, rfl, ?_⟩; exact hp.recut (by simp [flat, iv, sigAll]) (Fit.mk (by simp [iv_len, sigAll]) Fit.nil)

set_option maxHeartbeats 1000000 in
theorem rrows_calls (w : World) : Calls Tryz.prog 160 ([] : List Value).toArray w fun e w' => ∃ q : Nat × (Nat → Nat), True ∧ e = .returned (.slice (some ⟨q.1, 0, none⟩) 10 10) ∧ HP w w' [] ((q.1, .cells [(10, (List.range 10).map fun i => .slice (some ⟨q.2 i, 0, none⟩) 16 16), (10 - 10, [])] 40) :: rowsL q.2) := by
  refine calls_of_W Tryz.func160 rfl Tryz.ntmps160 rfl rfl (HP.refl w []) ?_
  refine W.seq ?_
  refine W.region ?_
  refine WL.as rfl rfl ?_
  refine WL.nil ?_
  refine WQ.then ?_
  refine W.seq ?_
  refine W.region ?_
  refine WL.bslice 3 8 rfl (by kernel_rfl) rfl rfl (by simp [one]) (by decide) ?_; intro b1
  refine WL.bslice 3 8 rfl (by kernel_rfl) rfl rfl (by simp [one]) (by decide) ?_; intro b2
  refine WL.bslice 3 8 rfl (by kernel_rfl) rfl rfl (by simp [one]) (by decide) ?_; intro b3
  refine WL.bslice 3 8 rfl (by kernel_rfl) rfl rfl (by simp [one]) (by decide) ?_; intro b4
  refine WL.bslice 3 8 rfl (by kernel_rfl) rfl rfl (by simp [one]) (by decide) ?_; intro b5
  refine WL.bslice 3 8 rfl (by kernel_rfl) rfl rfl (by simp [one]) (by decide) ?_; intro b6
  refine WL.bslice 3 8 rfl (by kernel_rfl) rfl rfl (by simp [one]) (by decide) ?_; intro b7
  refine WL.bslice 3 8 rfl (by kernel_rfl) rfl rfl (by simp [one]) (by decide) ?_; intro b8
  refine WL.bslice 3 8 rfl (by kernel_rfl) rfl rfl (by simp [one]) (by decide) ?_; intro b9
  refine WL.bslice 3 8 rfl (by kernel_rfl) rfl rfl (by simp [one]) (by decide) ?_; intro b10
  refine WL.bslice 40 24 rfl (by kernel_rfl) rfl rfl (by simp [one]) (by decide) ?_; intro b11
  refine WL.as rfl rfl ?_
  refine WL.nil ?_
  refine WQ.then ?_
  refine W.ret ?_
  refine WQ.ret1 Tryz.results160 (.tmp rfl) ?_
  intro w' hp; exact ⟨(b11, fun i => [b1, b2, b3, b4, b5, b6, b7, b8, b9, b10].getD i 0), trivial, rfl, hp⟩

end Go.Proofs.YtmeckbjinmgbbaaGreat