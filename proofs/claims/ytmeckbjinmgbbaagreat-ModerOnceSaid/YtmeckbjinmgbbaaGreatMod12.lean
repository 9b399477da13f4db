/- Who judges, whole: a crash. -/
import Derived.Test.YtmeckbjinmgbbaaGreatMod9
import Derived.Test.YtmeckbjinmgbbaaGreatSureP
set_option linter.unusedVariables false
set_option linter.unusedSimpArgs false

namespace Go.Proofs.YtmeckbjinmgbbaaGreat
open Go.X
theorem crash_w (rl : List Int) (P : MA) (x : MW) (hx : MOK rl x) (kept : Int) (hkb : 0 ≤ kept ∧ kept ≤ 18446744073709551615) (w : World) (hp0 : HP w w ((mwL rl P x).map (·.1)) (mwL rl P x)) :
    Calls Tryz.prog 14 [.pointer (some ⟨P.K.d, 0, none⟩), .int .u64 kept].toArray w fun e w' => e = .returned (.tuple #[]) ∧ HP w w' ((mwL rl P x).map (·.1)) [(P.K.d, .cells [(1, [.slice (some ⟨P.K.s, 0, none⟩) (crD x.D kept).n (crD x.D kept).n]), (1, [.map (some P.K.m)]), (1, [.int .i64 (crD x.D kept).fuse]), (1, [.bool (crD x.D kept).dead])] 74), (P.K.s, .cells [((crD x.D kept).n * 64, iv .u8 (crD x.D kept).sure.flatten)] 115), (P.K.m, .obj (mapO .i64 ((crD x.D kept).m.map sE) (crD x.D kept).ck))] := by
  unfold mwL at hp0 ⊢
  simp only [hid0] at hp0 ⊢
  refine (crash21_calls P.K x.D hx.d kept hkb w (HP.here hp0 cov)).mono fun e w' ⟨h1, h2⟩ => ⟨h1, ?_⟩
  exact (hp0.transP (M0 := [(P.K.d, .cells [(1, [.slice (some ⟨P.K.s, 0, none⟩) x.D.n x.D.n]), (1, [.map (some P.K.m)]), (1, [.int .i64 x.D.fuse]), (1, [.bool x.D.dead])] 74), (P.K.s, .cells [(x.D.n * 64, iv .u8 x.D.sure.flatten)] 115), (P.K.m, .obj (mapO .i64 (x.D.m.map sE) x.D.ck))]) pr h2).cov cov

end Go.Proofs.YtmeckbjinmgbbaaGreat