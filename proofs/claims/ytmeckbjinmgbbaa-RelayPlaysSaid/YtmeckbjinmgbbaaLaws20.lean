/- The statements of layer 20: a relay begun. -/
import Derived.Test.YtmeckbjinmgbbaaSend3
set_option linter.unusedVariables false
set_option linter.unusedSimpArgs false

namespace Go.Proofs.Ytmeckbjinmgbbaa
open Go.X
def kyL (x y : Int) : List Int := [x, y] ++ List.replicate (32 - 2) 0
theorem kyL_len {x y : Int} : (kyL x y).length = 32 := rfl
theorem kyL_bytes {x y : Int} (hx : 0 ≤ x ∧ x ≤ 255) (hy : 0 ≤ y ∧ y ≤ 255) : bytes (kyL x y) := fun c hc => by
  simp [kyL] at hc
  rcases hc with rfl | rfl | ⟨_, rfl⟩ <;> omega
def lnk (n : Int) : List Int := kyL (IntKind.u8.wrap n) 77
theorem lnk_len {n : Int} : (lnk n).length = 32 := rfl
theorem lnk_bytes {n : Int} : bytes (lnk n) := kyL_bytes ⟨u8_0 n, u8_1 n⟩ (by decide)
def bid (n : Int) : List Int := kyL (IntKind.u8.wrap n) 1
def bsg (n : Int) : List Int := kyL (IntKind.u8.wrap n) 2
def bk3 : List Int := [9] ++ List.replicate (32 - 1) 0

theorem link20_calls (n : Int) (w : World) : Calls Try.prog 14 [.int .i64 n].toArray w fun e w' => e = .returned (AG [(32, iv .u8 (lnk n))]) ∧ HP w w' [] [] := by
 refine calls_of_W Try.func14 rfl Try.ntmps14 rfl rfl (HP.refl w []) ?_
 refine sr ?_
 refine oal [(32, List.replicate 32 (.int .u8 0))] (fun b2 => ?_)
 refine nx ?_
 refine omv ?_
 first | refine ov (vcvN .u8) ?_ | refine ov (vcv .u8) ?_
 refine ov (vbI 32 .u8 2 [_, 77]) ?_
 refine osta 32 ?_
 refine nq ?_
 refine W.ret ?_
 refine WQ.ret1 Try.results14 (.cellA 32 (by kernel_rfl) rfl at_ (by rfl)) ?_
 intro w' hp; exact ⟨by first | rfl | (simp; done) | (simp [*]; done) | simp_all, hp.forget⟩

theorem bundle20_calls (n : Int) (w : World) : Calls Try.prog 19 [.int .i64 n].toArray w fun e w' => e = .returned (AG (bunV (bid n) (bsg n) bk3 true)) ∧ HP w w' [] [] := by
 refine calls_of_W Try.func19 rfl Try.ntmps19 rfl rfl (HP.refl w []) ?_
 refine sr ?_
 refine oal [(32, List.replicate 32 (.int .u8 0)), (32, List.replicate 32 (.int .u8 0)), (32, List.replicate 32 (.int .u8 0)), (1, [.bool false])] (fun b2 => ?_)
 refine nx ?_
 refine omv ?_
 first | refine ov (vcvN .u8) ?_ | refine ov (vcv .u8) ?_
 refine ov (vbI 32 .u8 2 [_, 1]) ?_
 refine omv ?_
 first | refine ov (vcvN .u8) ?_ | refine ov (vcv .u8) ?_
 refine ov (vbI 32 .u8 2 [_, 2]) ?_
 refine ov (vbI 32 .u8 1 [9]) ?_
 refine ov (V_build (by kernel_rfl) (zi (zs := [(32, List.replicate 32 (.int .u8 0)), (32, List.replicate 32 (.int .u8 0)), (32, List.replicate 32 (.int .u8 0)), (1, [.bool false])])) (.agg (k := 0) (n := 32) rfl fit fln (by kernel_rfl) rfl (.agg (k := 32) (n := 32) rfl fit fln (by kernel_rfl) rfl (.agg (k := 64) (n := 32) rfl fit fln (by kernel_rfl) rfl (.one (k := 96) rfl rfl (by kernel_rfl) rfl (.nil _)))))) ?_
 refine osta 97 ?_
 refine nq ?_
 refine W.ret ?_
 refine WQ.ret1 Try.results19 (.cellA 97 (by kernel_rfl) rfl at_ (by rfl)) ?_
 intro w' hp; exact ⟨by first | rfl | (simp; done) | (simp [*]; done) | simp_all, hp.forget⟩

theorem new20_calls (rl : List Int) (ticks : Int) (hl : rl.length = 32) (ht : 1 ≤ ticks ∧ ticks ≤ 1000000) (w : World) :
    Calls Try.prog 17 [AG [(32, iv .u8 rl)], .int .i64 ticks].toArray w fun e w' => ∃ r : Nat × Rel, True ∧ e = .returned (.tuple #[.pointer (some ⟨r.1, 0, none⟩), .int .i64 0]) ∧ HP w w' [] ((r.1, .cells (relS r.2.r (List.replicate 8 none)) 110) :: stpL r.2 ticks rl [] 0) := by
 refine calls_of_W Try.func17 rfl Try.ntmps17 rfl rfl (HP.refl w []) ?_
 refine sr ?_
 refine obxa (fun b2 => ?_)
 refine oas ?_
 refine oas ?_
 refine nx ?_
 refine ov (vlda 32) ?_
 refine omv ?_
 refine cg rfl (fun w hp => new16_calls rl ticks hl ht w) (fun b11 h11 => ?_)
 refine omv ?_
 refine ov vex ?_
 refine ov vex ?_
 refine oas ?_
 refine oas ?_
 refine nq ?_
 refine W.seq ?_
 refine sr ?_
 refine omv ?_
 refine ov (v2 V_neq) ?_
 refine nq ?_
 refine W.cond_false rfl rfl ?_
 refine W.skip ?_
 refine WQ.then ?_
 refine sr ?_
 refine omv ?_
 refine ov (V_build (by kernel_rfl) (zi (zs := [(1, [.pointer none]), (8, List.replicate 8 (.pointer none))])) (.one (k := 0) rfl rfl (by kernel_rfl) rfl (.nil _))) ?_
 refine obxa (fun b19 => ?_)
 refine oas ?_
 refine oas ?_
 refine nq ?_
 refine W.ret ?_
 refine WQ.ret2 Try.results17 (.tmp rfl) (.tmp rfl) ?_
 intro w' hp; refine ⟨(b19, b11), trivial, rfl, ?_⟩; simp only [stpL, hid0]; exact hp.cov cov

theorem new20_bad (rl : List Int) (ticks : Int) (hl : rl.length = 32) (ht : ¬ (1 ≤ ticks ∧ ticks ≤ 1000000)) (w : World) :
    Calls Try.prog 17 [AG [(32, iv .u8 rl)], .int .i64 ticks].toArray w fun e w' => e = .returned (.tuple #[.pointer none, .int .i64 1]) ∧ HP w w' [] [] := by
 refine calls_of_W Try.func17 rfl Try.ntmps17 rfl rfl (HP.refl w []) ?_
 refine sr ?_
 refine obxa (fun b2 => ?_)
 refine oas ?_
 refine oas ?_
 refine nx ?_
 refine ov (vlda 32) ?_
 refine omv ?_
 refine cp rfl (fun w hp => new16_bad rl ticks hl ht w) ?_
 refine omv ?_
 refine ov vex ?_
 refine ov vex ?_
 refine oas ?_
 refine oas ?_
 refine nq ?_
 refine W.seq ?_
 refine sr ?_
 refine omv ?_
 refine ov (v2 V_neq) ?_
 refine nq ?_
 refine W.cond_true rfl rfl ?_
 refine sr ?_
 refine omv ?_
 refine oas ?_
 refine oas ?_
 refine nq ?_
 refine W.ret ?_
 refine WQ.then_ret ?_
 refine WQ.ret2 Try.results17 (.tmp rfl) (.tmp rfl) ?_
 intro w' hp; exact ⟨by first | rfl | (simp; done) | (simp [*]; done) | simp_all, hp.forget⟩

def ps3 (x y z : Nat) : List (Option Nat) := [some x, some y, some z, none, none, none, none, none]
def psN (l : List PAcc) (i : Nat) : List (Option Nat) := l.map (fun a => some a.p) ++ List.replicate (8 - i) none
theorem psN_free {l : List PAcc} {i : Nat} (h : l.length = i) (h8 : i < 8) : (psN l i)[((i : Nat) : Int).toNat]? = some none := by
  subst h
  unfold psN
  rw [Int.toNat_natCast, List.getElem?_append_right (by simp)]
  rw [List.length_map, Nat.sub_self]
  obtain ⟨k, hk⟩ : ∃ k, 8 - l.length = k + 1 := ⟨8 - l.length - 1, by omega⟩
  rw [hk]; rfl
theorem psN_set {l : List PAcc} {i : Nat} {a : PAcc} (h : l.length = i) (h8 : i < 8) : (psN l i).set ((i : Nat) : Int).toNat (some a.p) = psN (l ++ [a]) (i + 1) := by
  subst h
  unfold psN
  obtain ⟨k, hk⟩ : ∃ k, 8 - l.length = k + 1 := ⟨8 - l.length - 1, by omega⟩
  rw [Int.toNat_natCast, List.set_append_right _ _ (by simp), hk, show 8 - (l.length + 1) = k by omega]
  simp [List.replicate_succ]
theorem psN_len {l : List PAcc} {i : Nat} (h : l.length = i) (h8 : i ≤ 8) : (psN l i).length = 8 := by simp [psN, h]; omega
def nwA (n : Int) : AAcc := AAcc.new (lnk n) (bid n) (bsg n) []
def NwOK (l : List PAcc) : Prop := ∀ i a, l[i]? = some a → POK a ∧ a.abs = nwA (i : Nat)
theorem NwOK.snoc {l : List PAcc} {a : PAcc} (h : NwOK l) (ha : POK a) (hb : a.abs = nwA (l.length : Nat)) : NwOK (l ++ [a]) := fun i x hx => by
  by_cases hi : i < l.length
  · rw [List.getElem?_append_left hi] at hx; exact h i x hx
  · rw [List.getElem?_append_right (by omega)] at hx
    have : i - l.length = 0 := by
      cases hk : i - l.length with
      | zero => rfl
      | succ k => rw [hk] at hx; simp at hx
    rw [this] at hx; simp at hx; subst hx
    rw [show i = l.length by omega]; exact ⟨ha, hb⟩
def Bgn (r : (Nat × Rel) × PAcc × PAcc × PAcc) : Prop := (POK r.2.1 ∧ r.2.1.abs = nwA 0) ∧ (POK r.2.2.1 ∧ r.2.2.1.abs = nwA 1) ∧ POK r.2.2.2 ∧ r.2.2.2.abs = nwA 2
theorem three {l : List PAcc} (h : l.length = 3) (hn : NwOK l) : ∃ x y z, l = [x, y, z] ∧ (POK x ∧ x.abs = nwA 0) ∧ (POK y ∧ y.abs = nwA 1) ∧ POK z ∧ z.abs = nwA 2 := by
  match l, h with
  | [x, y, z], _ => exact ⟨x, y, z, rfl, hn 0 x rfl, hn 1 y rfl, hn 2 z rfl⟩

theorem begun20_calls (rl : List Int) (hl : rl.length = 32) (w : World) :
    Calls Try.prog 12 [AG [(32, iv .u8 rl)]].toArray w fun e w' => ∃ r : (Nat × Rel) × PAcc × PAcc × PAcc, Bgn r ∧ e = .returned (.pointer (some ⟨r.1.1, 0, none⟩)) ∧ HP w w' [] ((r.1.1, .cells (relS r.1.2.r (ps3 r.2.1.p r.2.2.1.p r.2.2.2.p)) 110) :: (stpL r.1.2 5 rl [] 0 ++ (accP r.2.1 ++ (accP r.2.2.1 ++ accP r.2.2.2)))) := by
 refine calls_of_W Try.func12 rfl Try.ntmps12 rfl rfl (HP.refl w []) ?_
 refine sr ?_
 refine obxa (fun b1 => ?_)
 refine oas ?_
 refine nx ?_
 refine ov (vlda 32) ?_
 refine cg rfl (fun w hp => new20_calls rl 5 hl (by decide) w) (fun b8 h8 => ?_)
 refine omv ?_
 refine ov vex ?_
 refine ov vex ?_
 refine oas ?_
 refine oas ?_
 refine nq ?_
 refine W.seq ?_
 refine sr ?_
 refine omv ?_
 refine ov (V_eqlP (by kernel_rfl) rfl rfl) ?_
 refine omv ?_
 refine oy rfl rfl ?_
 refine omv ?_
 refine oy rfl rfl ?_
 refine ov (v2 V_neq) ?_
 refine ov (V_pick_f rfl rfl rfl) ?_
 refine nq ?_
 refine W.cond_false rfl (by decide) ?_
 refine W.skip ?_
 refine WQ.then ?_
 refine W.seq ?_
 refine sr ?_
 refine oas ?_
 refine nq ?_
 refine W.block ?_
 -- LOOP 0
 refine W.pick (S' := [(5, _), (0, _), (1, _), (2, _), (3, _), (4, _), (16, _)]) [5, 0, 1, 2, 3, 4, 16] rfl ?_
 refine W.loopG (σ := Nat × List PAcc) (fun ⟨i, l⟩ => i ≤ 3 ∧ l.length = i ∧ NwOK l) (fun ⟨i, l⟩ => [(5, .int .i64 (i : Nat))]) (fun ⟨i, l⟩ => [(b8.1, .cells (relS b8.2.r (psN l i)) 110)]) [] (fun ⟨i, l⟩ => stpL b8.2 5 rl [] 0 ++ l.flatMap accP) (fun ⟨i, l⟩ => 3 - i) (0, []) rfl cov ⟨Nat.zero_le _, rfl, fun i a h => by simp at h⟩ ?_
 rintro ⟨i, l⟩ ⟨hi, hli, hn⟩; dsimp only at hi hli hn ⊢
 refine W.seq ?_
 refine sr ?_
 refine omv ?_
 refine ov (v2 V_lss) ?_
 refine nq ?_
 refine W.cond_dec rfl (fun g1 => ?_) (fun g1 => ?_)
 · refine W.skip ?_
   refine WQ.then ?_
   refine W.seq ?_
   refine W.block ?_
   refine W.region ?_
   refine omv ?_
   refine omv ?_
   refine omv ?_
   refine cp rfl (fun w hp => link20_calls _ w) ?_
   refine omv ?_
   refine cp rfl (fun w hp => bundle20_calls _ w) ?_
   refine cgP _ rfl (fun w hp => reg20_calls b8.2.r b8.1 (psN l i) (psN_len hli (by omega)) (i : Int) (lnk (i : Int)) (bid (i : Int)) (bsg (i : Int)) bk3 true none 0 0 [] lnk_len lnk_bytes rfl rfl rfl (by omega) (psN_free hli (by omega)) rfl (Nat.le_refl _) (by decide) (fun k hk => (List.not_mem_nil hk).elim) w (HP.here hp cov) (fun w1 M h1 => SrW.nil)) (fun r27 h27 => ?_)
   simp only [List.cons_append, List.nil_append, List.append_nil, List.append_assoc]
   refine WL.back (accP r27) ?_
   simp only [List.cons_append, List.nil_append, List.append_nil, List.append_assoc]
   refine WL.nil ?_
   refine WQ.block_normal ?_
   refine WQ.then ?_
   refine W.region ?_
   refine omv ?_
   first | refine ov vaddN ?_ | refine ov vadd ?_
   refine oas ?_
   refine WL.nil ?_
   exact ag ((i + 1, l ++ [r27])) [5, 0, 1, 2, 3, 4, 16] (by (try dsimp only); exact ⟨by omega, by simp; omega, hn.snoc h27.1 (by rw [hli]; exact h27.2)⟩) (by (try dsimp only); omega) rfl (by dsimp only; rw [List.flatMap_append, List.flatMap_singleton, ← psN_set hli (by omega)]; exact cov)
 · refine W.exit ?_
   refine WQ.then_exit ?_
   refine WQ.then_exit ?_
   refine WQ.block_hit ?_
   refine WQ.then ?_
   refine sr ?_
   refine omv ?_
   refine oas ?_
   refine nq ?_
   refine W.ret ?_
   refine WQ.ret1 Try.results12 (.tmp rfl) ?_
   intro w' hp; obtain rfl : i = 3 := by omega
   obtain ⟨x, y, z, rfl, h1, h2, h3⟩ := three hli hn
   exact ⟨(b8, x, y, z), ⟨h1, h2, h3⟩, rfl, hp.cov cov⟩

end Go.Proofs.Ytmeckbjinmgbbaa