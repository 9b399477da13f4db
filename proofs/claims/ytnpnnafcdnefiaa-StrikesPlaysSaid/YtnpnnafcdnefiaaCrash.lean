/- Disks: Crash. -/
import Derived.Test.YtnpnnafcdnefiaaPend
set_option linter.unusedVariables false
set_option linter.unusedSimpArgs false

namespace Go.Proofs.Ytnpnnafcdnefiaa
open Go.X
section
variable {c : Cx} {S : Slots} {L : List (Nat × Blk)} {ty T : TypeId} {x y : Operand} {v : Value}
theorem vlk1 {b : Nat} {k : IntKind} {q : Int} {m : List Ent} {clock : Nat} (e : TypeId) (zv : Value) (hm : mget m q = some v) (hx : ev S x = some (.map (some b)) := by exact rfl) (hy : ev S y = some (.int k q) := by exact rfl) (hb : (b, Blk.obj (mapO k m clock)) ∈ L := by exact mm) (ht : mapT c.P T k = some e := by kernel_rfl) (hz : (c.P.info? e).bind (·.zero) = some zv := by kernel_rfl) : Val c S L (.lookup T x y false) ty v := by
  have := V_lookup1 (ty := ty) zv hx hy hb ht hz
  rwa [hm] at this
end
def bitB (kept : Int) (i : Nat) : Bool := decide (andI .u64 (shrI .u64 kept i) 1 = 1)
/-- What is sure when of the pending ones so many have been gone through. -/
def crashN (D : DS) (kept : Int) : Nat → List (List Int)
  | 0 => D.sure
  | i + 1 => if bitB kept i then (crashN D kept i).set ((pend D).getD i 0).toNat (cur D ((pend D).getD i 0).toNat) else crashN D kept i
def crD (D : DS) (kept : Int) : DS := { D with sure := crashN D kept D.m.length, m := [], fuse := -1, dead := false }
theorem pend_len {D : DS} : (pend D).length = D.m.length := by rw [pend_perm.length_eq]; simp
theorem pend_mem {D : DS} (hok : DOK D) {i : Nat} (hi : i < D.m.length) : ∃ s, pget D.m ((pend D).getD i 0) = some s ∧ (0 ≤ (pend D).getD i 0 ∧ (pend D).getD i 0 < D.n) ∧ Sec s ∧ cur D ((pend D).getD i 0).toNat = s := by
  have hil : i < (pend D).length := by rw [pend_len]; exact hi
  have hm : (pend D).getD i 0 ∈ D.m.map (·.1) := by
    rw [List.getD_eq_getElem?_getD, List.getElem?_eq_getElem hil]
    exact pend_perm.subset (List.getElem_mem hil)
  obtain ⟨e, he, heq⟩ := List.mem_map.1 hm
  have hE := hok.ents e he
  have hg := pget_in hok.keys he
  rw [← heq]
  refine ⟨e.2.1, hg, hE.1, hE.2.1, ?_⟩
  unfold cur
  rw [Int.toNat_of_nonneg hE.1.1, hg]; rfl
theorem crashN_len {D : DS} {kept : Int} : ∀ {i : Nat}, (crashN D kept i).length = D.sure.length
  | 0 => rfl
  | i + 1 => by unfold crashN; split <;> simp [crashN_len (i := i)]
theorem crashN_sec {D : DS} (hok : DOK D) {kept : Int} : ∀ {i : Nat}, i ≤ D.m.length → ∀ s ∈ crashN D kept i, Sec s
  | 0, _, s, hs => hok.secs s hs
  | i + 1, hi, s, hs => by
    unfold crashN at hs
    split at hs
    · rcases List.mem_or_eq_of_mem_set hs with h | rfl
      · exact crashN_sec hok (Nat.le_of_succ_le hi) s h
      · obtain ⟨s', _, _, h3, h4⟩ := pend_mem hok (i := i) (by omega)
        rw [h4]; exact h3
    · exact crashN_sec hok (Nat.le_of_succ_le hi) s hs
theorem crD_ok {D : DS} (hok : DOK D) {kept : Int} : DOK (crD D kept) :=
  ⟨hok.n1, hok.n64, by rw [crD]; exact crashN_len.trans hok.len, crashN_sec hok (Nat.le_refl _), (fun e he => by cases he), List.nodup_nil, List.nodup_nil, by simp [crD]⟩
theorem crash_yes {D : DS} {kept : Int} {i : Nat} (h : bitB kept i = true) : (crashN D kept i).set ((pend D).getD i 0).toNat (cur D ((pend D).getD i 0).toNat) = crashN D kept (i + 1) := by rw [crashN, if_pos h]
theorem crash_no {D : DS} {kept : Int} {i : Nat} (h : bitB kept i = false) : crashN D kept i = crashN D kept (i + 1) := by rw [crashN, if_neg (by simp [h])]

theorem crash21_calls (K : DK) (D : DS) (hok : DOK D) (kept : Int) (hkb : 0 ≤ kept ∧ kept ≤ 18446744073709551615) (w : World) (hd : HP w w [K.d, K.s, K.m] [(K.d, .cells [(1, [.slice (some ⟨K.s, 0, none⟩) D.n D.n]), (1, [.map (some K.m)]), (1, [.int .i64 D.fuse]), (1, [.bool D.dead])] 101), (K.s, .cells [(D.n * 64, iv .u8 D.sure.flatten)] 58), (K.m, .obj (mapO .i64 (D.m.map sE) D.ck))]) :
    Calls Try.prog 33 [.pointer (some ⟨K.d, 0, none⟩), .int .u64 kept].toArray w fun e w' => e = .returned (.tuple #[]) ∧ HP w w' [K.d, K.s, K.m] [(K.d, .cells [(1, [.slice (some ⟨K.s, 0, none⟩) (crD D kept).n (crD D kept).n]), (1, [.map (some K.m)]), (1, [.int .i64 (crD D kept).fuse]), (1, [.bool (crD D kept).dead])] 101), (K.s, .cells [((crD D kept).n * 64, iv .u8 (crD D kept).sure.flatten)] 58), (K.m, .obj (mapO .i64 ((crD D kept).m.map sE) (crD D kept).ck))] := by
 have hn1 := hok.n1
 have hn64 := hok.n64
 have hfu := hok.fuse
 have hlen := hok.len
 have hml := ents_le hok
 have hpl := pend_len (D := D)
 refine calls_of_W Try.func33 rfl Try.ntmps33 rfl rfl hd ?_
 refine W.seq ?_
 refine sr ?_
 refine omv ?_
 refine cgX rfl (fun w hp => pend21_calls K D hok w (HP.here hp cov)) (fun b7 h7 => ?_)
 refine ov vlenS ?_
 refine omv ?_
 refine nq ?_
 refine W.block ?_
 -- LOOP 0
 refine W.pick (S' := [(9, _), (0, _), (1, _), (7, _), (8, _)]) [9, 0, 1, 7, 8] rfl ?_
 refine W.loopG (σ := Nat) (fun i => i ≤ D.m.length) (fun i => [(9, .int .i64 (i : Nat))]) (fun i => [(K.s, .cells [(D.n * 64, iv .u8 (crashN D kept i).flatten)] 58)]) [(K.d, _), (K.m, _)] (fun i => gL b7 D.m.length (iv .i64 (pend D)) 3) (fun i => D.m.length - i) 0 rfl cov (Nat.zero_le _) ?_
 rintro i hi
 refine sr ?_
 refine ov (v2 V_lss) ?_
 refine nq ?_
 refine W.seq ?_
 refine W.cond_dec rfl (fun g1 => ?_) (fun g1 => ?_)
 · refine W.skip ?_
   refine WQ.then ?_
   refine W.seq ?_
   refine W.block ?_
   refine W.seq ?_
   obtain ⟨gb, gc, gr, rfl⟩ : ∃ b c r, b7 = some (b, c, r) := by
     cases b7 with
     | none => exact absurd h7 (by show ¬ D.m.length = 0; omega)
     | some q => exact ⟨_, _, _, rfl⟩
   obtain ⟨sx, hq1, hq2, hq3, hq4⟩ := pend_mem hok (i := i) (by omega)
   have hsx := hq3.1
   have hcl := crashN_len (D := D) (kept := kept) (i := i)
   have hcs : ∀ l ∈ crashN D kept i, l.length = 64 := fun l hl => (crashN_sec hok (by omega) l hl).1
   refine W.region ?_
   refine omv ?_
   refine ov (viB) ?_
   refine ov (vldI) ?_
   refine oas ?_
   refine oas ?_
   refine nx ?_
   refine omv ?_
   refine omv ?_
   refine ov (V_shr rfl rfl (by omega)) ?_
   refine ov (v2 V_and) ?_
   refine ov (v2 V_eql) ?_
   refine nq ?_
   refine W.cond_dec rfl (fun g2 => ?_) (fun g2 => ?_)
   · have g2b : bitB kept i = true := decide_eq_true (by assumption)
     have hst : sx = cur D ((pend D).getD i 0).toNat := hq4.symm
     refine dr (.q 0 (.q 1 (.q 2 (.q 3 (.q 4 (.q 5 (.q 6 (.q 7 (.q 8 (.q 9 (.q 10 (.q 11 (.l 12 (.done)))))))))))))) [(K.d, _), (K.m, _)] ?_
     refine dq rfl (V_move rfl) ?_
     refine dq rfl vnil ?_
     refine dq rfl (vfa0 0 1) ?_
     refine dq rfl vld ?_
     refine dq rfl (V_move rfl) ?_
     refine dq rfl (V_move rfl) ?_
     refine dq rfl vnil ?_
     refine dq rfl (vfa0 1 1) ?_
     refine dq rfl vld ?_
     refine dq rfl (V_move rfl) ?_
     refine dq rfl (vlk1 58 (AG [(64, iv .u8 (List.replicate 64 0))]) (mget_some hq1)) ?_
     refine dq rfl (viSecZ 64) ?_
     refine WD.l ?_
     refine dstSec 64 hcs rfl ?_
     refine WD.done ?_
     refine WQ.block_normal ?_
     refine WQ.then ?_
     refine W.region ?_
     first | refine ov vaddN ?_ | refine ov vadd ?_
     refine omv ?_
     refine WL.nil ?_
     rw [hst, crash_yes g2b]
     exact ag (i + 1) [9, 0, 1, 7, 8] (sc) (by (try dsimp only); omega) rfl cov
   · refine W.skip ?_
     refine WQ.block_normal ?_
     refine WQ.then ?_
     refine W.region ?_
     first | refine ov vaddN ?_ | refine ov vadd ?_
     refine omv ?_
     refine WL.nil ?_
     have g2b : bitB kept i = false := decide_eq_false (by assumption)
     rw [crash_no g2b]
     exact ag (i + 1) [9, 0, 1, 7, 8] (sc) (by (try dsimp only); omega) rfl cov
 · refine W.exit ?_
   refine WQ.then_exit ?_
   refine WQ.then_exit ?_
   refine WQ.block_hit ?_
   refine WQ.then ?_
   refine sr ?_
   refine omv ?_
   refine ov vnil ?_
   refine ov (vfa0 1 1) ?_
   refine ov vld ?_
   refine oclr ?_
   refine nq ?_
   refine W.region ?_
   refine omv ?_
   refine omv ?_
   refine ov vnil ?_
   refine ov (vfa0 3 1) ?_
   refine ost ?_
   refine ov vnil ?_
   refine ov (vfa0 2 1) ?_
   refine ost ?_
   refine WL.nil ?_
   refine WQ.ret0 (.inr rfl) Try.results33 ?_
   intro w' hp; obtain rfl : i = D.m.length := by omega
   exact ⟨rfl, hp.cov cov⟩

end Go.Proofs.Ytnpnnafcdnefiaa