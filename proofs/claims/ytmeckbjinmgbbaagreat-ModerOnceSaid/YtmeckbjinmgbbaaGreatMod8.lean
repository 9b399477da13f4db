/- Who judges: begun; reports that are made. -/
import Derived.Test.YtmeckbjinmgbbaaGreatMod7
set_option linter.unusedVariables false
set_option linter.unusedSimpArgs false

namespace Go.Proofs.YtmeckbjinmgbbaaGreat
open Go.X
def k2 : List Int := ([2] ++ List.replicate (32 - 1) 0)
def mdR (rl : List Int) (id fr to now : Int) : RepS := madeR rl k2 id fr to now none 1 1 [120]
def mdL (rl : List Int) (id fr to now : Int) : List Int := repL (mdR rl id fr to now)
def mdA (rl : List Int) (id fr to now : Int) : AR := ⟨id, to, [120], k2, stampF rl 5 (madeEnv k2 fr to [120]) now⟩
structure MdOK (id fr to now : Int) : Prop where
  i : 0 ≤ id ∧ id ≤ 1000000
  f : 0 ≤ fr ∧ fr < 8
  t : 0 ≤ to ∧ to < 8
  n : timeB now = true
theorem k2_len : k2.length = 32 := rfl
theorem k2_bytes : bytes k2 := by unfold k2; exact sc
section
variable {rl : List Int} {id fr to now t : Int} (h : MdOK id fr to now)
include h
theorem MdOK.may : mayB (madeEnv k2 fr to [120]) now = true := made_may h.n h.f h.t
theorem MdOK.idB : timeB id = true := by unfold timeB; simp [h.i]
theorem MdOK.rb : rB (mdR rl id fr to now) = true := made_rB h.may h.idB (by omega)
theorem MdOK.ok : RepOK (mdR rl id fr to now) := by
  have _ := h.i
  exact made_ok k2_len k2_bytes sc (by omega)
theorem MdOK.len : (mdL rl id fr to now).length = 132 := repL_len h.rb h.ok rfl
theorem MdOK.by_ : bytes (mdL rl id fr to now) := repL_bytes h.rb h.ok
theorem MdOK.rd : repE (mdL rl id fr to now) = 0 ∧ rdA (mdL rl id fr to now) = mdA rl id fr to now := by
  obtain ⟨e1, e2, e3⟩ := rep_ok (h.rb (rl := rl)) h.ok rfl
  refine ⟨e1, ?_⟩
  unfold rdA mdL
  rw [e3 none, e2]; rfl
theorem MdOK.chk (h2 : timeB t = true) : repChk rl 5 (rlR (mdA rl id fr to now, none)) t = if t < now ∨ t > now + 50 then 5 else 0 :=
  made_chk (A := none) (n := 1) (cap := 0) (tl := [120]) h.may h.idB (by omega) h2
theorem MdOK.frE : (mdA rl id fr to now).st.fr = fr := by
  unfold mdA; rw [stampF_t h.may]; rfl
end

theorem made24_calls (rl : List Int) (hl : rl.length = 32) (hrb : bytes rl) (id fr to now : Int) (h : MdOK id fr to now) (w : World) :
    Calls Tryz.prog 10 [AG [(32, iv .u8 rl)], .int .i64 id, .int .i64 fr, .int .i64 to, .int .i64 now].toArray w fun e w' => ∃ o : Gr, GrOK o 132 ∧ e = .returned (.slice (gA o) 132 (gC o)) ∧ HP w w' [] (gL o 132 (iv .u8 (mdL rl id fr to now)) 5) := by
 refine calls_of_W Tryz.func10 rfl Tryz.ntmps10 rfl rfl (HP.refl w []) ?_
 refine sr ?_
 refine obxa (fun b5 => ?_)
 refine oas ?_
 refine nx ?_
 refine ov (vlda 32) ?_
 refine ov (vbI 32 .u8 1 [2]) ?_
 refine omv ?_
 refine omv ?_
 refine omv ?_
 refine omv ?_
 refine obsI (k := .u8) 5 1 [120] (fun b20 => ?_)
 refine oro ?_
 refine cg rfl (fun w hp => made17_S rl k2 id fr to now hl hrb k2_len k2_bytes h.f h.t _ _ _ [120] w sw sc sc (by omega)) (fun b22 h22 => ?_)
 have hMr : rB (⟨id, to, some ⟨b20, 0, none⟩, 1, 1, [120], k2, b22⟩ : RepS) = true := by subst h22; exact made_rB h.may h.idB (by omega)
 have hMok : RepOK (⟨id, to, some ⟨b20, 0, none⟩, 1, 1, [120], k2, b22⟩ : RepS) := by subst h22; exact made_ok k2_len k2_bytes sc (by omega)
 have hMe : repL (⟨id, to, some ⟨b20, 0, none⟩, 1, 1, [120], k2, b22⟩ : RepS) = mdL rl id fr to now := by subst h22; rfl
 have hMl : (repL (⟨id, to, some ⟨b20, 0, none⟩, 1, 1, [120], k2, b22⟩ : RepS)).length = 132 := by rw [hMe]; exact h.len
 have hSc : b22.commit.length = 32 := hMok.2.2.1
 have hSt : b22.tag.length = 32 := hMok.2.2.2.2.1
 unfold RepS.V
 refine cgG rfl (fun w hp => rrepbytes_calls (⟨id, to, some ⟨b20, 0, none⟩, 1, 1, [120], k2, b22⟩ : RepS) hMok w sw) (fun o23 h23 => ?_)
 rw [rN_t hMr, hMl] at h23
 rw [rN_t hMr, rF_t hMr, hMr, hMl, hMe]
 refine omv ?_
 refine ov vex ?_
 refine ov vex ?_
 refine oas ?_
 refine oas ?_
 refine nx ?_
 refine omv ?_
 refine oas ?_
 refine nq ?_
 refine W.ret ?_
 refine WQ.ret1 Tryz.results10 (.tmp rfl) ?_
 intro w' hp; exact ⟨o23, h23, rfl, hp.cov cov⟩

/-- Begun on a disk. -/
structure Bg (D : DS) (x : MW) : Prop where
  d : x.D = D
  l : x.g.ll = opL D
  s : x.S = opS (opL D)
  q : qs x = []
  j : ∀ y, jB x.J y = false
  t : ∀ t ∈ x.tk, t.2 = (0, 2)
theorem MOK.new {rl : List Int} {D : DS} {g : GR} {tk : List Tok} {ck : Nat} (hD : DOK D) (hg : g.OK) (hl : g.ll = opL D) (ht : Tok0 tk) (hn : g.rs.length ≤ D.n) : MOK rl ⟨D, g, opS (opL D), none, [], [], 0, tk, [], ck⟩ :=
  ⟨hD, hg, hn, opS_ok fun l h => GR.lbytes hg l (by rw [hl]; exact h), rfl, ⟨fun r hr => (List.not_mem_nil hr).elim, Nat.zero_le _⟩, .nil, ht.1, fun t h => by rw [ht.2 t h]; constructor <;> decide, .nil⟩

theorem begun24_calls (rl : List Int) (hl : rl.length = 32) (K : DK) (D : DS) (hok : DOK D) (w : World) (hd : HP w w [K.d, K.s, K.m] [(K.d, .cells [(1, [.slice (some ⟨K.s, 0, none⟩) D.n D.n]), (1, [.map (some K.m)]), (1, [.int .i64 D.fuse]), (1, [.bool D.dead])] 74), (K.s, .cells [(D.n * 64, iv .u8 D.sure.flatten)] 115), (K.m, .obj (mapO .i64 (D.m.map sE) D.ck))]) :
    Calls Tryz.prog 8 [AG [(32, iv .u8 rl)], .pointer (some ⟨K.d, 0, none⟩)].toArray w fun e w' => ∃ r : MA × MW, (MOK rl r.2 ∧ Bg D r.2) ∧ e = .returned (.tuple #[.pointer (some ⟨r.1.M, 0, none⟩), .pointer (some ⟨r.1.b, 0, none⟩)]) ∧ HP w w' (((K.d, .cells [(1, [.slice (some ⟨K.s, 0, none⟩) D.n D.n]), (1, [.map (some K.m)]), (1, [.int .i64 D.fuse]), (1, [.bool D.dead])] 74) :: (K.s, .cells [(D.n * 64, iv .u8 D.sure.flatten)] 115) :: (K.m, .obj (mapO .i64 (D.m.map sE) D.ck)) :: [] : List (Nat × Blk)).map (·.1)) (mwL rl ({ r.1 with K := K } : MA) r.2) := by
 refine calls_of_W Tryz.func8 rfl Tryz.ntmps8 rfl rfl hd ?_
 refine sr ?_
 refine obxa (fun b2 => ?_)
 refine oas ?_
 refine oas ?_
 refine nx ?_
 refine ov (vlda 32) ?_
 refine cg rfl (fun w hp => new16_calls rl 5 hl (by decide) w) (fun b16 h16 => ?_)
 refine omv ?_
 refine ov vex ?_
 refine ov vex ?_
 refine oas ?_
 refine oas ?_
 refine nx ?_
 refine omv ?_
 refine cgP _ rfl (fun w hp => open22_calls K D hok w (HP.here hp cov)) (fun r21 h21 => ?_)
 simp only [List.cons_append, List.nil_append, List.append_nil, List.append_assoc]
 refine WL.back (gRL 5 35 r21.2) ?_
 refine omv ?_
 refine ov vex ?_
 refine ov vex ?_
 refine oas ?_
 refine oas ?_
 refine nq ?_
 refine W.seq ?_
 have hn21 : r21.2.rs.length ≤ 64 := by
   rw [← GR.ll_len, h21.2]; have := opL_len (D := D); have := hok.n64; omega
 have hnD : r21.2.rs.length ≤ D.n := by rw [← GR.ll_len, h21.2]; exact opL_len
 refine W.region ?_
 refine omv ?_
 refine cgP _ rfl (fun w hp => sopen23_calls K D r21.1 r21.2 h21.1 hn21 (GR.le59 h21.1 (by rw [h21.2]; exact opL_le hok)) w (HP.here hp cov)) (fun r26 h26 => ?_)
 simp only [List.cons_append, List.nil_append, List.append_nil, List.append_assoc]
 refine WL.back (gRL 5 35 r21.2) ?_
 rw [h21.2]
 refine omv ?_
 refine ov vex ?_
 refine ov vex ?_
 refine oas ?_
 refine oas ?_
 refine nx ?_
 refine omv ?_
 refine omv ?_
 refine cg rfl (fun w hp => new24_calls b16.r r26.1 w) (fun b32 h32 => ?_)
 simp only [List.cons_append, List.nil_append, List.append_nil, List.append_assoc]
 refine WL.back (b32.2.2.map tkB) ?_
 simp only [List.cons_append, List.nil_append, List.append_nil, List.append_assoc]
 refine omv ?_
 refine ov vex ?_
 refine ov vex ?_
 refine oas ?_
 refine oas ?_
 refine nq ?_
 refine W.seq ?_
 refine sr ?_
 refine omv ?_
 refine ov (v2 V_neq) ?_
 refine omv ?_
 refine oy rfl (by decide) ?_
 refine omv ?_
 refine oy rfl (by decide) ?_
 refine ov (v2 V_neq) ?_
 refine ov (V_pick_f rfl (by decide) rfl) ?_
 refine omv ?_
 refine oy rfl (by decide) ?_
 refine omv ?_
 refine oy rfl (by decide) ?_
 refine ov (v2 V_neq) ?_
 refine ov (V_pick_f rfl (by decide) rfl) ?_
 refine omv ?_
 refine oy rfl (by decide) ?_
 refine omv ?_
 refine oy rfl (by decide) ?_
 refine ov (v2 V_neq) ?_
 refine ov (V_pick_f rfl (by decide) rfl) ?_
 refine nq ?_
 refine W.cond_false rfl (by decide) ?_
 refine W.skip ?_
 refine WQ.then ?_
 refine sr ?_
 refine omv ?_
 refine omv ?_
 refine oas ?_
 refine oas ?_
 refine nq ?_
 refine W.ret ?_
 refine WQ.ret2 Tryz.results8 (.tmp rfl) (.tmp rfl) ?_
 intro w' hp; refine ⟨(⟨K, r21.1, r26.1, r26.2, b32.1, b32.2.1, b16⟩, ⟨D, r21.2, opS (opL D), none, [], [], 0, b32.2.2, [], 0⟩), ⟨.new hok h21.1 h21.2 h32 hnD, rfl, h21.2, rfl, rfl, fun _ => rfl, h32.2⟩, rfl, ?_⟩; unfold mwL; simp only [hid0, gLM, List.flatMap_nil, List.nil_append, List.length_nil]; exact hp.cov cov

end Go.Proofs.YtmeckbjinmgbbaaGreat