/- Mails: a copy that shares nothing. -/
import Derived.Test.YtmeckbjinmgbbaaSame
import Derived.Test.YtmeckbjinmgbbaaStamp2
set_option linter.unusedVariables false
set_option linter.unusedSimpArgs false

namespace Go.Proofs.Ytmeckbjinmgbbaa
open Go.X
def mlS (id : Int) (e : EnvS) (s : StampS) : List Seg := (1, [.int .i64 id]) :: (enV e ++ stV s)
theorem gr_open {o : Gr} {n : Nat} (h : GrOK o n) (h0 : 0 < n) : ∃ b c r, o = some (b, c, r) ∧ n ≤ c := by
  cases o with
  | none => exact absurd h (by show ¬ n = 0; omega)
  | some q => obtain ⟨b, c, r⟩ := q; exact ⟨b, c, r, rfl, h⟩
theorem HP.here {w0 w : World} {O O' : List Nat} {L M : List (Nat × Blk)} (hp : HP w0 w O L) (hc : Cov M L) (hO : M.map (·.1) = O' := by rfl) : HP w w O' M := by
  subst hO
  have h := hp.cov hc
  exact ⟨rfl, rfl, rfl, Nat.le_refl _, fun _ _ _ => rfl, h.held, fun p hp => .inl (List.mem_map.2 ⟨p, hp, rfl⟩), h.nodup⟩
def EnvS.at (e : EnvS) (A : Option Addr) (n cap : Nat) : EnvS := { e with body := .slice A n cap }

theorem own19_calls (id : Int) (e : EnvS) (A : Option Addr) (n cap : Nat) (l : List Int) (he : EnOK e A n cap l) (s : StampS) (hsc : s.commit.length = 32) (hst : s.tag.length = 32) (hn4 : n ≤ 4000000) (w : World) (hs : SrW w 1 A n (iv .u8 l)) :
    Calls Try.prog 80 [AG (mlS id e s)].toArray w fun e' w' => ∃ r : Nat, True ∧ e' = .returned (AG (mlS id (e.at (some ⟨r, 0, none⟩) n n) s)) ∧ HP w w' [] [(r, .cells [(n, iv .u8 l), (n - n, [])] 5)] := by
 obtain ⟨hbd, hec, hecb, hep, hepb, hlb, hnl, hcp, hbig⟩ := he
 subst hnl
 unfold mlS enV stV EnvS.at
 rw [hbd]
 refine calls_of_W Try.func80 rfl Try.ntmps80 rfl rfl (HP.refl w []) ?_
 refine sr ?_
 refine obxa (fun b1 => ?_)
 refine oal [(1, [.int .i64 0]), (1, [.int .i64 0]), (1, [.int .i64 0]), (32, List.replicate 32 (.int .u8 0)), (32, List.replicate 32 (.int .u8 0)), (1, [.int .i64 0]), (1, [.int .i64 0]), (1, [.slice none 0 0]), (1, [.int .i64 0]), (1, [.int .i64 0]), (1, [.int .i64 0]), (1, [.int .i64 0]), (32, List.replicate 32 (.int .u8 0)), (32, List.replicate 32 (.int .u8 0))] (fun b2 => ?_)
 refine nx ?_
 refine ov (vfa0 1 69) ?_
 refine ov (vfa 68 1) ?_
 refine ov vld ?_
 refine ov vlenS ?_
 refine omkI (k := .u8) 5 1 (fun b8 => ?_)
 refine oas ?_
 refine nx ?_
 refine omv ?_
 refine ov (vfa0 1 69) ?_
 refine ov (vfa 68 1) ?_
 refine ov vld ?_
 refine WL.copy [(l.length, iv .u8 l), (l.length - l.length, [])] rfl (by kernel_rfl) rfl rfl hs.old0 (by repeat (first | exact Upd.here _ _ | apply Upd.there)) (by simp [flat, iv_len]) (fun _ => Fit.mk (by simp [iv_len]) (Fit.mk (by simp) Fit.nil)) (by simp [flat, iv_len, List.take_of_length_le, List.drop_of_length_le]) ?_
 refine nx ?_
 refine omv ?_
 refine ov (vfa0 1 69) ?_
 refine ov (vfa 68 1) ?_
 refine ost ?_
 refine nx ?_
 refine ov (vlda 138) ?_
 refine osta 138 ?_
 refine nq ?_
 refine W.ret ?_
 refine WQ.ret1 Try.results80 (.cellA 138 (by kernel_rfl) rfl at_ (by rfl)) ?_
 intro w' hp; exact ⟨b8, trivial, rfl, hp.cov cov⟩

end Go.Proofs.Ytmeckbjinmgbbaa