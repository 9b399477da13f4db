/- Rows parted. -/
import Derived.Test.YtmeckbjinmgbbaaGreatStamp5
import Derived.Test.YtmeckbjinmgbbaaGreatXB
set_option linter.unusedVariables false
set_option linter.unusedSimpArgs false

namespace Go.Proofs.YtmeckbjinmgbbaaGreat
open Go.X
def partF : Nat → List Int → Option (List (List Int))
  | 0, l => if l = [] then some [] else none
  | f + 1, l => if l = [] then some [] else if l.length < 4 then none else if l.length - 4 < (numH (l.take 4)).toNat then none
    else (partF f ((l.drop 4).drop (numH (l.take 4)).toNat)).map (((l.drop 4).take (numH (l.take 4)).toNat) :: ·)
theorem partF_fuel : ∀ (f g : Nat) (l : List Int), l.length ≤ f → l.length ≤ g → partF f l = partF g l
  | 0, 0, _, _, _ => rfl
  | 0, g + 1, l, h, _ => by have : l = [] := List.length_eq_zero_iff.1 (by omega); subst this; rfl
  | f + 1, 0, l, _, h => by have : l = [] := List.length_eq_zero_iff.1 (by omega); subst this; rfl
  | f + 1, g + 1, l, h, h2 => by
    unfold partF
    by_cases h0 : l = []
    · rw [if_pos h0, if_pos h0]
    · have := List.length_pos_iff.2 h0
      rw [if_neg h0, if_neg h0, partF_fuel f g _ (by simp; omega) (by simp; omega)]
def partL (l : List Int) : Option (List (List Int)) := partF l.length l
def partR (l : List Int) : List (List Int) := (partL l).getD []
def partE (l : List Int) : Int := if (partL l).isSome then 0 else 3
theorem partL_nil : partL [] = some [] := rfl
theorem partL_un {l : List Int} (h : l ≠ []) : partL l = if l.length < 4 then none else if l.length - 4 < (numH (l.take 4)).toNat then none
    else (partL ((l.drop 4).drop (numH (l.take 4)).toNat)).map (((l.drop 4).take (numH (l.take 4)).toNat) :: ·) := by
  have hl := List.length_pos_iff.2 h
  obtain ⟨f, hf⟩ : ∃ f, l.length = f + 1 := ⟨l.length - 1, by omega⟩
  unfold partL
  rw [hf]
  show (if l = [] then some [] else _) = _
  rw [if_neg h, partF_fuel f ((l.drop 4).drop (numH (l.take 4)).toNat).length _ (by simp; omega) (Nat.le_refl _), hf]
theorem part_short {l : List Int} (h0 : 0 < l.length) (h : l.length < 4) : partL l = none := by rw [partL_un (List.length_pos_iff.1 h0), if_pos h]
theorem part_big {l : List Int} {q : Nat} (h : 4 ≤ l.length) (hq : numH ((l.take 4).take 8) = q) (hb : l.length - 4 < q) : partL l = none := by
  rw [List.take_of_length_le (by simp; omega)] at hq
  rw [partL_un (List.length_pos_iff.1 (by omega)), if_neg (by omega), if_pos (by rw [hq]; simpa using hb)]
theorem part_step {l : List Int} {q : Nat} (h : 4 ≤ l.length) (hq : numH ((l.take 4).take 8) = q) (hb : q ≤ l.length - 4) : partL l = (partL ((l.drop 4).drop q)).map (((l.drop 4).take q) :: ·) := by
  rw [List.take_of_length_le (by simp; omega)] at hq
  rw [partL_un (List.length_pos_iff.1 (by omega)), if_neg (by omega), if_neg (by rw [hq]; simpa using hb), hq]; rfl
theorem part_err {l : List Int} (h : partL l = none) : partE l = 3 ∧ partR l = [] := by simp [partE, partR, h]
theorem part_ok {l : List Int} {ll : List (List Int)} (h : partL l = some ll) : partE l = 0 ∧ partR l = ll := by simp [partE, partR, h]
theorem GR.ll_snoc7 {o : Gr} {rs : List RowB} {r : RowB} : GR.ll ⟨o, rs ++ [r]⟩ = rs.map (·.l) ++ [r.l] := by simp [GR.ll]

theorem part_calls (A : Option Addr) (n cap : Nat) (l : List Int) (w : World) (hs : SrW w 1 A n (iv .u8 l)) (hb : bytes l) (hn : n ≤ cap) (hn2 : n ≤ 4000000) :
    Calls Tryz.prog 64 [.slice A n cap].toArray w fun e w' => ∃ o : GR, (o.OK ∧ o.ll = partR l) ∧ e = .returned (.tuple #[.slice (gA o.o) o.rs.length (gC o.o), .int .i64 (partE l)]) ∧ HP w w' [] (gRL 5 35 o) := by
 refine calls_of_W Tryz.func64 rfl Tryz.ntmps64 rfl rfl (HP.refl w []) ?_
 refine sr ?_
 refine oas ?_
 refine oas ?_
 refine nx ?_
 refine oas ?_
 refine nq ?_
 refine W.seq ?_
 refine W.block ?_
 -- LOOP 0
 refine W.pick (S' := [(0, _), (4, _), (2, _), (3, _)]) [0, 4, 2, 3] rfl ?_
 refine W.loopG (σ := Option Addr × Nat × Nat × List Int × GR) (fun ⟨A1, n1, c1, z, g⟩ => SrW w 1 A1 n1 (iv .u8 z) ∧ bytes z ∧ n1 ≤ c1 ∧ g.OK ∧ g.rs.length + n1 ≤ n ∧ partL l = (partL z).map (g.ll ++ ·)) (fun ⟨A1, n1, c1, z, g⟩ => [(0, .slice A1 n1 c1), (4, .slice (gA g.o) g.rs.length (gC g.o))]) (fun ⟨A1, n1, c1, z, g⟩ => []) [] (fun ⟨A1, n1, c1, z, g⟩ => gRL 5 35 g) (fun ⟨A1, n1, c1, z, g⟩ => n1) (A, n, cap, l, GR.nil) rfl cov ⟨hs, hb, hn, GR.nil_ok, by simp [GR.nil], by rw [show GR.nil.ll = [] from rfl]; simp⟩ ?_
 rintro ⟨A1, n1, c1, z, g⟩ ⟨hs1, hz, hc1, hg, hgn, hpl⟩; dsimp only at hs1 hz hc1 hg hgn hpl ⊢; have hzl := SrW.ilen hs1
 refine W.seq ?_
 refine sr ?_
 refine omv ?_
 refine ov vlenS ?_
 refine ov (v2 V_gtr) ?_
 refine nq ?_
 refine W.cond_dec rfl (fun g1 => ?_) (fun g1 => ?_)
 · refine W.skip ?_
   refine WQ.then ?_
   refine W.block ?_
   refine W.seq ?_
   refine sr ?_
   refine omv ?_
   refine ov vlenS ?_
   refine ov (v2 V_lss) ?_
   refine nq ?_
   refine W.cond_dec rfl (fun g2 => ?_) (fun g2 => ?_)
   · refine W.seq ?_
     refine W.region ?_
     refine oas ?_
     refine oas ?_
     refine nq ?_
     refine W.ret ?_
     refine WQ.then_ret ?_
     refine WQ.block_ret ?_
     refine WQ.then_ret ?_
     refine WQ.block_ret ?_
     refine WQ.then_ret ?_
     refine WQ.ret2 Tryz.results64 (.tmp rfl) (.tmp rfl) ?_
     intro w' hp; obtain ⟨hE, hR⟩ := part_err (l := l) (by rw [hpl, part_short (by omega) (by omega)]; rfl)
     refine ⟨GR.nil, ⟨GR.nil_ok, hR.symm⟩, ?_, hp.cov cov⟩; rw [hE]; rfl
   · refine W.skip ?_
     refine WQ.then ?_
     refine sr ?_
     refine omv ?_
     have hbd := numH_bd4 (hz.take 4) (by simp; omega)
     obtain ⟨q, hq⟩ : ∃ q : Nat, numH ((z.take 4).take 8) = q := ⟨_, (Int.toNat_of_nonneg hbd.1).symm⟩
     refine ov (vsl0 (h := 4) 1) ?_
     refine cp rfl (fun w hp => ofHigh_calls _ _ _ _ w sw sc sc sc) ?_
     rw [hq]
     refine oas ?_
     refine nx ?_
     refine omv ?_
     refine ov (vsl (l := 4) 1) ?_
     refine oas ?_
     refine nq ?_
     refine W.seq ?_
     refine sr ?_
     refine omv ?_
     refine omv ?_
     refine ov vlenS ?_
     first | refine ov (vcvN .u64) ?_ | refine ov (vcv .u64) ?_
     refine ov (v2 V_gtr) ?_
     refine nq ?_
     refine W.cond_dec rfl (fun g3 => ?_) (fun g3 => ?_)
     · refine W.seq ?_
       refine W.region ?_
       refine oas ?_
       refine oas ?_
       refine nq ?_
       refine W.ret ?_
       refine WQ.then_ret ?_
       refine WQ.block_ret ?_
       refine WQ.then_ret ?_
       refine WQ.block_ret ?_
       refine WQ.then_ret ?_
       refine WQ.ret2 Tryz.results64 (.tmp rfl) (.tmp rfl) ?_
       intro w' hp; obtain ⟨hE, hR⟩ := part_err (l := l) (by rw [hpl, part_big (by omega) hq (by omega)]; rfl)
       refine ⟨GR.nil, ⟨GR.nil_ok, hR.symm⟩, ?_, hp.cov cov⟩; rw [hE]; rfl
     · refine W.skip ?_
       refine WQ.then ?_
       refine sr ?_
       have hs4 := hs1.dropI (l := 4) (m := c1) (by omega) hc1
       have hs5 := hs4.dropI (l := q) (m := c1 - 4) (by omega) (by omega)
       refine omv ?_
       refine obsI (k := .u8) 5 1 [] (fun b23 => ?_)
       refine omv ?_
       refine omv ?_
       refine ov (vsl0 1) ?_
       refine oap0 5 1 (fun b27 c27 r27 h27 => ?_)
       refine obs 35 24 (fun b28 => ?_)
       refine oapR (r := ⟨b27, q, c27, r27, (z.drop 4).take q⟩) 5 35 24 (fun o29 h29 => ?_) (hr := ⟨by simp; omega, by omega, (hz.drop 4).take q⟩)
       refine oas ?_
       refine nq ?_
       refine W.region ?_
       refine omv ?_
       refine omv ?_
       refine ov (vsl 1) ?_
       refine oas ?_
       refine WL.nil ?_
       refine WQ.block_normal ?_
       exact ag (cutA (cutA A1 4 c1 1) q (c1 - 4) 1, n1 - 4 - q, c1 - 4 - q, (z.drop 4).drop q, ⟨o29, g.rs ++ [⟨b27, q, c27, r27, (z.drop 4).take q⟩]⟩) [0, 4, 2, 3] (by (try dsimp only); exact ⟨hs5, (hz.drop 4).drop q, by omega, h29, by simp only [List.length_append, List.length_singleton]; omega, by rw [hpl, part_step (by omega) hq (by omega), GR.ll_snoc7, Option.map_map]; simp [Function.comp_def, GR.ll]⟩) (by show n1 - 4 - q < n1; omega) rfl cov
 · refine W.exit ?_
   refine WQ.then_exit ?_
   refine WQ.then_exit ?_
   refine WQ.block_hit ?_
   refine WQ.then ?_
   refine sr ?_
   refine omv ?_
   refine oas ?_
   refine oas ?_
   refine nq ?_
   refine W.ret ?_
   refine WQ.ret2 Tryz.results64 (.tmp rfl) (.tmp rfl) ?_
   intro w' hp; obtain rfl : n1 = 0 := by omega
   obtain rfl : z = [] := List.length_eq_zero_iff.1 (by omega)
   obtain ⟨hE, hR⟩ := part_ok (l := l) (ll := g.ll) (by rw [hpl, partL_nil]; simp)
   refine ⟨g, ⟨hg, hR.symm⟩, ?_, hp.cov cov⟩; rw [hE]

end Go.Proofs.YtmeckbjinmgbbaaGreat