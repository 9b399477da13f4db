/- A relay: an envelope sent. -/
import Derived.Test.YtmeckbjinmgbbaaSend
set_option linter.unusedVariables false
set_option linter.unusedSimpArgs false

namespace Go.Proofs.Ytmeckbjinmgbbaa
open Go.X
def stpL (R : Rel) (ticks : Int) (root : List Int) (m : List Ent) (ck : Nat) : List (Nat × Blk) := hid 0 [(R.r, .cells [(1, [.int .i64 ticks]), (1, [.map (some R.m)]), (1, [.func (.func 49) #[] #[.pointer (some ⟨R.v, 0, none⟩), .pointer (some ⟨R.k, 0, none⟩)]])] 119), (R.m, .obj (mapO .i64 m ck)), (R.v, .cells [(1, [.pointer (some ⟨R.r, 0, none⟩)])] 58), (R.k, .cells [(32, iv .u8 root)] 23)]
/-- An envelope sent by one to another: the answer, its stamp, what both are then. -/
def sndR (a c : AAcc) (e : EnvS) (l tag : List Int) : Int := rtE a.link a.susp e l tag c.ms.length
def sndE (a c : AAcc) (e : EnvS) (l tag : List Int) (now : Int) : Int := if sndR a c e l tag = 0 then takeE 5 10 a.t a.n now else sndR a c e l tag
def sndS (root : List Int) (ticks : Int) (a c : AAcc) (e : EnvS) (l tag : List Int) (now : Int) : StampS := if sndE a c e l tag now = 0 then stampF root ticks e now else StampS.zero
def sndA (a c : AAcc) (e : EnvS) (l tag : List Int) (now : Int) : AAcc := if sndR a c e l tag = 0 then { a with t := takeT a.t now, n := takeN 5 10 a.t a.n now } else a
def AAcc.put (c : AAcc) (e : EnvS) (s : StampS) (l : List Int) : AAcc := { c with ms := c.ms ++ [⟨c.many + 1, e.at none 0 0, s, l⟩], many := c.many + 1 }
def sndC (root : List Int) (ticks : Int) (a c : AAcc) (e : EnvS) (l tag : List Int) (now : Int) : AAcc := if sndE a c e l tag now = 0 then c.put e (stampF root ticks e now) l else c
section
variable {root : List Int} {ticks : Int} {a c : AAcc} {e : EnvS} {l tag : List Int} {now r : Int}
theorem snd_no (h : sndR a c e l tag ≠ 0) : sndE a c e l tag now = sndR a c e l tag ∧ sndS root ticks a c e l tag now = StampS.zero ∧ sndA a c e l tag now = a ∧ sndC root ticks a c e l tag now = c := by
  have h1 : sndE a c e l tag now = sndR a c e l tag := if_neg h
  exact ⟨h1, if_neg (by rw [h1]; exact h), if_neg h, if_neg (by rw [h1]; exact h)⟩
theorem snd_rate (h : sndR a c e l tag = 0) (h2 : takeE 5 10 a.t a.n now ≠ 0) : sndE a c e l tag now = takeE 5 10 a.t a.n now ∧ sndS root ticks a c e l tag now = StampS.zero ∧ sndA a c e l tag now = { a with t := takeT a.t now, n := takeN 5 10 a.t a.n now } ∧ sndC root ticks a c e l tag now = c := by
  have h1 : sndE a c e l tag now = takeE 5 10 a.t a.n now := if_pos h
  exact ⟨h1, if_neg (by rw [h1]; exact h2), if_pos h, if_neg (by rw [h1]; exact h2)⟩
theorem snd_yes (h : sndR a c e l tag = 0) (h2 : takeE 5 10 a.t a.n now = 0) : sndE a c e l tag now = 0 ∧ sndS root ticks a c e l tag now = stampF root ticks e now ∧ sndA a c e l tag now = { a with t := takeT a.t now, n := takeN 5 10 a.t a.n now } ∧ sndC root ticks a c e l tag now = c.put e (stampF root ticks e now) l := by
  have h1 : sndE a c e l tag now = 0 := by unfold sndE; rw [if_pos h, h2]
  exact ⟨h1, if_pos h1, if_pos h, if_pos h1⟩
end
theorem rt0_of {link : List Int} {susp : Bool} {e : EnvS} {l tag : List Int} {k : Nat} (h : rtE link susp e l tag k = 0) : tgL link e l = tag ∧ susp = false ∧ k < 8 := by
  unfold rtE at h
  split at h
  · cases h
  · rename_i h1
    split at h
    · cases h
    · rename_i h2
      split at h
      · cases h
      · exact ⟨Classical.not_not.1 h1, by simpa using h2, by omega⟩
theorem stampF_c {root : List Int} {ticks : Int} {e : EnvS} {now : Int} (h : e.commit.length = 32) : (stampF root ticks e now).commit.length = 32 := by
  unfold stampF; split <;> simp [h, StampS.zero]
theorem stampF_t {root : List Int} {ticks : Int} {e : EnvS} {now : Int} : (stampF root ticks e now).tag.length = 32 := by
  unfold stampF; split <;> simp [StampS.zero]

theorem send20_bad1 (b : Nat) (e : EnvS) (A : Option Addr) (n cap : Nat) (l : List Int) (he : EnOK e A n cap l) (hh : ¬ heB e n = true) (tag : List Int) (htl : tag.length = 32) (htb : bytes tag) (now : Int) (w : World) :
    Calls Try.prog 15 [.pointer (some ⟨b, 0, none⟩), AG (enV e), AG [(32, iv .u8 tag)], .int .i64 now].toArray w fun e' w' => e' = .returned (.tuple #[AG (stV StampS.zero), .int .i64 1]) ∧ HP w w' [] [] := by
 have he0 := he
 obtain ⟨hbd, hec, hecb, hep, hepb, hlb2, hnl, hcp, hbig⟩ := he
 subst hnl
 unfold enV
 refine calls_of_W Try.func15 rfl Try.ntmps15 rfl rfl (HP.refl w []) ?_
 refine sr ?_
 refine obxa (fun b5 => ?_)
 refine obxa (fun b6 => ?_)
 refine oal [(1, [.int .i64 0]), (1, [.int .i64 0]), (1, [.int .i64 0]), (1, [.int .i64 0]), (32, List.replicate 32 (.int .u8 0)), (32, List.replicate 32 (.int .u8 0))] (fun b8 => ?_)
 refine oas ?_
 refine nq ?_
 refine W.seq ?_
 refine sr ?_
 refine ov (vlda 69) ?_
 refine cp rfl (fun w hp => henv_calls_bad e A l.length cap l he0 hh w) ?_
 refine omv ?_
 refine ov vex ?_
 refine ov vex ?_
 refine oas ?_
 refine oas ?_
 refine nx ?_
 refine omv ?_
 refine ov (v2 V_neq) ?_
 refine omv ?_
 refine on rfl rfl ?_
 refine on rfl rfl ?_
 refine on rfl rfl ?_
 refine on rfl rfl ?_
 refine on rfl rfl ?_
 refine ov (V_pick_t rfl rfl rfl) ?_
 refine omv ?_
 refine on rfl rfl ?_
 refine on rfl rfl ?_
 refine ov (V_pick_t rfl rfl rfl) ?_
 refine omv ?_
 refine on rfl rfl ?_
 refine on rfl rfl ?_
 refine ov (V_pick_t rfl rfl rfl) ?_
 refine nq ?_
 refine W.cond_true rfl rfl ?_
 refine sr ?_
 refine ov (V_build (by kernel_rfl) (zi (zs := [(1, [.int .i64 0]), (1, [.int .i64 0]), (1, [.int .i64 0]), (1, [.int .i64 0]), (32, List.replicate 32 (.int .u8 0)), (32, List.replicate 32 (.int .u8 0))])) (.nil _)) ?_
 refine osta 68 ?_
 refine oas ?_
 refine nq ?_
 refine W.ret ?_
 refine WQ.then_ret ?_
 refine WQ.ret2 Try.results15 (.cellA 68 (by kernel_rfl) rfl at_ (by rfl)) (.tmp rfl) ?_
 intro w' hp; exact ⟨rfl, hp.forget⟩

theorem send20_bad2 (b : Nat) (e : EnvS) (A : Option Addr) (n cap : Nat) (l : List Int) (he : EnOK e A n cap l) (hh : heB e n = true) (tag : List Int) (htl : tag.length = 32) (htb : bytes tag) (now : Int) (hbad : e.fr = e.to ∨ now < 0 ∨ 1000000 < now) (w : World) (hs : SrW w 1 A n (iv .u8 l)) :
    Calls Try.prog 15 [.pointer (some ⟨b, 0, none⟩), AG (enV e), AG [(32, iv .u8 tag)], .int .i64 now].toArray w fun e' w' => e' = .returned (.tuple #[AG (stV StampS.zero), .int .i64 1]) ∧ HP w w' [] [] := by
 have he0 := he
 obtain ⟨hbd, hec, hecb, hep, hepb, hlb2, hnl, hcp, hbig⟩ := he
 subst hnl
 unfold enV
 refine calls_of_W Try.func15 rfl Try.ntmps15 rfl rfl (HP.refl w []) ?_
 refine sr ?_
 refine obxa (fun b5 => ?_)
 refine obxa (fun b6 => ?_)
 refine oal [(1, [.int .i64 0]), (1, [.int .i64 0]), (1, [.int .i64 0]), (1, [.int .i64 0]), (32, List.replicate 32 (.int .u8 0)), (32, List.replicate 32 (.int .u8 0))] (fun b8 => ?_)
 refine oas ?_
 refine nq ?_
 refine W.seq ?_
 refine sr ?_
 refine ov (vlda 69) ?_
 refine cgG rfl (fun w hp => henv_calls e A l.length cap l he0 hh w sw) (fun o22 h22 => ?_)
 refine omv ?_
 refine ov vex ?_
 refine ov vex ?_
 refine oas ?_
 refine oas ?_
 refine nq ?_
 refine W.seq ?_
 by_cases h1 : e.fr = e.to
 · by_cases h2 : now < 0
   · refine W.region ?_
     refine omv ?_
     refine ov (v2 V_neq) ?_
     refine omv ?_
     refine oy rfl rfl ?_
     refine ov (vfa0 0 1) ?_
     refine oy rfl rfl ?_
     refine ov vld ?_
     refine oy rfl rfl ?_
     refine ov (vfa0 1 1) ?_
     refine oy rfl rfl ?_
     refine ov vld ?_
     refine oy rfl rfl ?_
     refine ov (v2 V_eql) ?_
     refine ov (V_pick_f rfl rfl rfl) ?_
     refine omv ?_
     refine on rfl (decide_eq_true h1) ?_
     refine on rfl (decide_eq_true h1) ?_
     refine ov (V_pick_t rfl (decide_eq_true h1) rfl) ?_
     refine omv ?_
     refine on rfl rfl ?_
     refine on rfl rfl ?_
     refine ov (V_pick_t rfl rfl rfl) ?_
     refine nq ?_
     refine W.cond_true rfl rfl ?_
     refine sr ?_
     refine ov (V_build (by kernel_rfl) (zi (zs := [(1, [.int .i64 0]), (1, [.int .i64 0]), (1, [.int .i64 0]), (1, [.int .i64 0]), (32, List.replicate 32 (.int .u8 0)), (32, List.replicate 32 (.int .u8 0))])) (.nil _)) ?_
     refine osta 68 ?_
     refine oas ?_
     refine nq ?_
     refine W.ret ?_
     refine WQ.then_ret ?_
     refine WQ.ret2 Try.results15 (.cellA 68 (by kernel_rfl) rfl at_ (by rfl)) (.tmp rfl) ?_
     intro w' hp; exact ⟨rfl, hp.forget⟩
   · refine W.region ?_
     refine omv ?_
     refine ov (v2 V_neq) ?_
     refine omv ?_
     refine oy rfl rfl ?_
     refine ov (vfa0 0 1) ?_
     refine oy rfl rfl ?_
     refine ov vld ?_
     refine oy rfl rfl ?_
     refine ov (vfa0 1 1) ?_
     refine oy rfl rfl ?_
     refine ov vld ?_
     refine oy rfl rfl ?_
     refine ov (v2 V_eql) ?_
     refine ov (V_pick_f rfl rfl rfl) ?_
     refine omv ?_
     refine on rfl (decide_eq_true h1) ?_
     refine on rfl (decide_eq_true h1) ?_
     refine ov (V_pick_t rfl (decide_eq_true h1) rfl) ?_
     refine omv ?_
     refine on rfl rfl ?_
     refine on rfl rfl ?_
     refine ov (V_pick_t rfl rfl rfl) ?_
     refine nq ?_
     refine W.cond_true rfl rfl ?_
     refine sr ?_
     refine ov (V_build (by kernel_rfl) (zi (zs := [(1, [.int .i64 0]), (1, [.int .i64 0]), (1, [.int .i64 0]), (1, [.int .i64 0]), (32, List.replicate 32 (.int .u8 0)), (32, List.replicate 32 (.int .u8 0))])) (.nil _)) ?_
     refine osta 68 ?_
     refine oas ?_
     refine nq ?_
     refine W.ret ?_
     refine WQ.then_ret ?_
     refine WQ.ret2 Try.results15 (.cellA 68 (by kernel_rfl) rfl at_ (by rfl)) (.tmp rfl) ?_
     intro w' hp; exact ⟨rfl, hp.forget⟩
 · by_cases h2 : now < 0
   · refine W.region ?_
     refine omv ?_
     refine ov (v2 V_neq) ?_
     refine omv ?_
     refine oy rfl rfl ?_
     refine ov (vfa0 0 1) ?_
     refine oy rfl rfl ?_
     refine ov vld ?_
     refine oy rfl rfl ?_
     refine ov (vfa0 1 1) ?_
     refine oy rfl rfl ?_
     refine ov vld ?_
     refine oy rfl rfl ?_
     refine ov (v2 V_eql) ?_
     refine ov (V_pick_f rfl rfl rfl) ?_
     refine omv ?_
     refine oy rfl (decide_eq_false h1) ?_
     refine omv ?_
     refine oy rfl (decide_eq_false h1) ?_
     refine ov (v2 V_lss) ?_
     refine ov (V_pick_f rfl (decide_eq_false h1) rfl) ?_
     refine omv ?_
     refine on rfl (decide_eq_true h2) ?_
     refine on rfl (decide_eq_true h2) ?_
     refine ov (V_pick_t rfl (decide_eq_true h2) rfl) ?_
     refine nq ?_
     refine W.cond_true rfl rfl ?_
     refine sr ?_
     refine ov (V_build (by kernel_rfl) (zi (zs := [(1, [.int .i64 0]), (1, [.int .i64 0]), (1, [.int .i64 0]), (1, [.int .i64 0]), (32, List.replicate 32 (.int .u8 0)), (32, List.replicate 32 (.int .u8 0))])) (.nil _)) ?_
     refine osta 68 ?_
     refine oas ?_
     refine nq ?_
     refine W.ret ?_
     refine WQ.then_ret ?_
     refine WQ.ret2 Try.results15 (.cellA 68 (by kernel_rfl) rfl at_ (by rfl)) (.tmp rfl) ?_
     intro w' hp; exact ⟨rfl, hp.forget⟩
   · refine W.region ?_
     refine omv ?_
     refine ov (v2 V_neq) ?_
     refine omv ?_
     refine oy rfl rfl ?_
     refine ov (vfa0 0 1) ?_
     refine oy rfl rfl ?_
     refine ov vld ?_
     refine oy rfl rfl ?_
     refine ov (vfa0 1 1) ?_
     refine oy rfl rfl ?_
     refine ov vld ?_
     refine oy rfl rfl ?_
     refine ov (v2 V_eql) ?_
     refine ov (V_pick_f rfl rfl rfl) ?_
     refine omv ?_
     refine oy rfl (decide_eq_false h1) ?_
     refine omv ?_
     refine oy rfl (decide_eq_false h1) ?_
     refine ov (v2 V_lss) ?_
     refine ov (V_pick_f rfl (decide_eq_false h1) rfl) ?_
     refine omv ?_
     refine oy rfl (decide_eq_false h2) ?_
     refine omv ?_
     refine oy rfl (decide_eq_false h2) ?_
     refine ov (v2 V_gtr) ?_
     refine ov (V_pick_f rfl (decide_eq_false h2) rfl) ?_
     refine nq ?_
     refine W.cond_true rfl (decide_eq_true (by omega)) ?_
     refine sr ?_
     refine ov (V_build (by kernel_rfl) (zi (zs := [(1, [.int .i64 0]), (1, [.int .i64 0]), (1, [.int .i64 0]), (1, [.int .i64 0]), (32, List.replicate 32 (.int .u8 0)), (32, List.replicate 32 (.int .u8 0))])) (.nil _)) ?_
     refine osta 68 ?_
     refine oas ?_
     refine nq ?_
     refine W.ret ?_
     refine WQ.then_ret ?_
     refine WQ.ret2 Try.results15 (.cellA 68 (by kernel_rfl) rfl at_ (by rfl)) (.tmp rfl) ?_
     intro w' hp; exact ⟨rfl, hp.forget⟩

theorem of20_any (R b : Nat) (ps : List (Option Nat)) (h8 : ps.length = 8) (n : Int) (w : World) (hR : AtW w b (relS R ps)) :
    Calls Try.prog 40 [.pointer (some ⟨b, 0, none⟩), .int .i64 n].toArray w fun e w' => e = .returned (.tuple #[optV (ofP ps n), .int .i64 (if (ofP ps n).isSome then 0 else 7)]) ∧ HP w w' [] [] := by
  cases h : ofP ps n with
  | none => exact of20_none R b ps h8 n h w hR
  | some p => exact of20_calls R b ps h8 n p h w hR

theorem send20_none1 (b : Nat) (R : Rel) (ticks : Int) (root : List Int) (ps : List (Option Nat)) (h8 : ps.length = 8) (e : EnvS) (A : Option Addr) (n cap : Nat) (l : List Int) (he : EnOK e A n cap l) (hh : heB e n = true) (tag : List Int) (htl : tag.length = 32) (htb : bytes tag) (now : Int) (hok : ¬ (e.fr = e.to ∨ now < 0 ∨ 1000000 < now)) (hno : ofP ps e.fr = none) (w : World) (hR : AtW w b (relS R.r ps)) (hs : SrW w 1 A n (iv .u8 l)) :
    Calls Try.prog 15 [.pointer (some ⟨b, 0, none⟩), AG (enV e), AG [(32, iv .u8 tag)], .int .i64 now].toArray w fun e' w' => e' = .returned (.tuple #[AG (stV StampS.zero), .int .i64 7]) ∧ HP w w' [] [] := by
 have he0 := he
 obtain ⟨hbd, hec, hecb, hep, hepb, hlb2, hnl, hcp, hbig⟩ := he
 subst hnl
 unfold enV
 refine calls_of_W Try.func15 rfl Try.ntmps15 rfl rfl (HP.refl w []) ?_
 refine sr ?_
 refine obxa (fun b5 => ?_)
 refine obxa (fun b6 => ?_)
 refine oal [(1, [.int .i64 0]), (1, [.int .i64 0]), (1, [.int .i64 0]), (1, [.int .i64 0]), (32, List.replicate 32 (.int .u8 0)), (32, List.replicate 32 (.int .u8 0))] (fun b8 => ?_)
 refine oas ?_
 refine nq ?_
 refine W.seq ?_
 refine sr ?_
 refine ov (vlda 69) ?_
 refine cgG rfl (fun w hp => henv_calls e A l.length cap l he0 hh w sw) (fun o22 h22 => ?_)
 refine omv ?_
 refine ov vex ?_
 refine ov vex ?_
 refine oas ?_
 refine oas ?_
 refine nx ?_
 refine omv ?_
 refine ov (v2 V_neq) ?_
 refine omv ?_
 refine oy rfl rfl ?_
 refine ov (vfa0 0 1) ?_
 refine oy rfl rfl ?_
 refine ov vld ?_
 refine oy rfl rfl ?_
 refine ov (vfa0 1 1) ?_
 refine oy rfl rfl ?_
 refine ov vld ?_
 refine oy rfl rfl ?_
 refine ov (v2 V_eql) ?_
 refine ov (V_pick_f rfl rfl rfl) ?_
 refine omv ?_
 refine oy rfl (decide_eq_false (by omega)) ?_
 refine omv ?_
 refine oy rfl (decide_eq_false (by omega)) ?_
 refine ov (v2 V_lss) ?_
 refine ov (V_pick_f rfl (decide_eq_false (by omega)) rfl) ?_
 refine omv ?_
 refine oy rfl (decide_eq_false (by omega)) ?_
 refine omv ?_
 refine oy rfl (decide_eq_false (by omega)) ?_
 refine ov (v2 V_gtr) ?_
 refine ov (V_pick_f rfl (decide_eq_false (by omega)) rfl) ?_
 refine nq ?_
 refine W.cond_false rfl (decide_eq_false (by omega)) ?_
 refine W.skip ?_
 refine WQ.then ?_
 refine sr ?_
 refine omv ?_
 refine ov (vfa0 0 1) ?_
 refine ov vld ?_
 refine cp rfl (fun w hp => of20_none R.r b ps h8 e.fr hno w hat) ?_
 refine omv ?_
 refine ov vex ?_
 refine ov vex ?_
 refine oas ?_
 refine oas ?_
 refine nx ?_
 refine omv ?_
 refine ov (vfa0 1 1) ?_
 refine ov vld ?_
 refine cp rfl (fun w hp => of20_any R.r b ps h8 e.to w hat) ?_
 refine omv ?_
 refine ov vex ?_
 refine ov vex ?_
 refine oas ?_
 refine oas ?_
 refine nq ?_
 refine W.seq ?_
 refine sr ?_
 refine omv ?_
 refine ov (v2 V_neq) ?_
 refine omv ?_
 refine on rfl rfl ?_
 refine on rfl rfl ?_
 refine ov (V_pick_t rfl rfl rfl) ?_
 refine nq ?_
 refine W.cond_true rfl rfl ?_
 refine sr ?_
 refine ov (V_build (by kernel_rfl) (zi (zs := [(1, [.int .i64 0]), (1, [.int .i64 0]), (1, [.int .i64 0]), (1, [.int .i64 0]), (32, List.replicate 32 (.int .u8 0)), (32, List.replicate 32 (.int .u8 0))])) (.nil _)) ?_
 refine osta 68 ?_
 refine oas ?_
 refine nq ?_
 refine W.ret ?_
 refine WQ.then_ret ?_
 refine WQ.ret2 Try.results15 (.cellA 68 (by kernel_rfl) rfl at_ (by rfl)) (.tmp rfl) ?_
 intro w' hp; exact ⟨rfl, hp.forget⟩

theorem send20_none2 (b : Nat) (R : Rel) (ticks : Int) (root : List Int) (ps : List (Option Nat)) (h8 : ps.length = 8) (e : EnvS) (A : Option Addr) (n cap : Nat) (l : List Int) (he : EnOK e A n cap l) (hh : heB e n = true) (tag : List Int) (htl : tag.length = 32) (htb : bytes tag) (now : Int) (hok : ¬ (e.fr = e.to ∨ now < 0 ∨ 1000000 < now)) (p : Nat) (hyes : ofP ps e.fr = some p) (hno : ofP ps e.to = none) (w : World) (hR : AtW w b (relS R.r ps)) (hs : SrW w 1 A n (iv .u8 l)) :
    Calls Try.prog 15 [.pointer (some ⟨b, 0, none⟩), AG (enV e), AG [(32, iv .u8 tag)], .int .i64 now].toArray w fun e' w' => e' = .returned (.tuple #[AG (stV StampS.zero), .int .i64 7]) ∧ HP w w' [] [] := by
 have he0 := he
 obtain ⟨hbd, hec, hecb, hep, hepb, hlb2, hnl, hcp, hbig⟩ := he
 subst hnl
 unfold enV
 refine calls_of_W Try.func15 rfl Try.ntmps15 rfl rfl (HP.refl w []) ?_
 refine sr ?_
 refine obxa (fun b5 => ?_)
 refine obxa (fun b6 => ?_)
 refine oal [(1, [.int .i64 0]), (1, [.int .i64 0]), (1, [.int .i64 0]), (1, [.int .i64 0]), (32, List.replicate 32 (.int .u8 0)), (32, List.replicate 32 (.int .u8 0))] (fun b8 => ?_)
 refine oas ?_
 refine nq ?_
 refine W.seq ?_
 refine sr ?_
 refine ov (vlda 69) ?_
 refine cgG rfl (fun w hp => henv_calls e A l.length cap l he0 hh w sw) (fun o22 h22 => ?_)
 refine omv ?_
 refine ov vex ?_
 refine ov vex ?_
 refine oas ?_
 refine oas ?_
 refine nx ?_
 refine omv ?_
 refine ov (v2 V_neq) ?_
 refine omv ?_
 refine oy rfl rfl ?_
 refine ov (vfa0 0 1) ?_
 refine oy rfl rfl ?_
 refine ov vld ?_
 refine oy rfl rfl ?_
 refine ov (vfa0 1 1) ?_
 refine oy rfl rfl ?_
 refine ov vld ?_
 refine oy rfl rfl ?_
 refine ov (v2 V_eql) ?_
 refine ov (V_pick_f rfl rfl rfl) ?_
 refine omv ?_
 refine oy rfl (decide_eq_false (by omega)) ?_
 refine omv ?_
 refine oy rfl (decide_eq_false (by omega)) ?_
 refine ov (v2 V_lss) ?_
 refine ov (V_pick_f rfl (decide_eq_false (by omega)) rfl) ?_
 refine omv ?_
 refine oy rfl (decide_eq_false (by omega)) ?_
 refine omv ?_
 refine oy rfl (decide_eq_false (by omega)) ?_
 refine ov (v2 V_gtr) ?_
 refine ov (V_pick_f rfl (decide_eq_false (by omega)) rfl) ?_
 refine nq ?_
 refine W.cond_false rfl (decide_eq_false (by omega)) ?_
 refine W.skip ?_
 refine WQ.then ?_
 refine sr ?_
 refine omv ?_
 refine ov (vfa0 0 1) ?_
 refine ov vld ?_
 refine cp rfl (fun w hp => of20_calls R.r b ps h8 e.fr p hyes w hat) ?_
 refine omv ?_
 refine ov vex ?_
 refine ov vex ?_
 refine oas ?_
 refine oas ?_
 refine nx ?_
 refine omv ?_
 refine ov (vfa0 1 1) ?_
 refine ov vld ?_
 refine cp rfl (fun w hp => of20_none R.r b ps h8 e.to hno w hat) ?_
 refine omv ?_
 refine ov vex ?_
 refine ov vex ?_
 refine oas ?_
 refine oas ?_
 refine nq ?_
 refine W.seq ?_
 refine sr ?_
 refine omv ?_
 refine ov (v2 V_neq) ?_
 refine omv ?_
 refine oy rfl rfl ?_
 refine omv ?_
 refine oy rfl rfl ?_
 refine ov (v2 V_neq) ?_
 refine ov (V_pick_f rfl rfl rfl) ?_
 refine nq ?_
 refine W.cond_true rfl rfl ?_
 refine sr ?_
 refine ov (V_build (by kernel_rfl) (zi (zs := [(1, [.int .i64 0]), (1, [.int .i64 0]), (1, [.int .i64 0]), (1, [.int .i64 0]), (32, List.replicate 32 (.int .u8 0)), (32, List.replicate 32 (.int .u8 0))])) (.nil _)) ?_
 refine osta 68 ?_
 refine oas ?_
 refine nq ?_
 refine W.ret ?_
 refine WQ.then_ret ?_
 refine WQ.ret2 Try.results15 (.cellA 68 (by kernel_rfl) rfl at_ (by rfl)) (.tmp rfl) ?_
 intro w' hp; exact ⟨rfl, hp.forget⟩

end Go.Proofs.Ytmeckbjinmgbbaa