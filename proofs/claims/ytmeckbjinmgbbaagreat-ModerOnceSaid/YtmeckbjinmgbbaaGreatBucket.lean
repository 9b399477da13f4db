/- What the functions of package bucket come to. -/
import Derived.Test.YtmeckbjinmgbbaaGreatRows
import Derived.Test.YtmeckbjinmgbbaaGreatXA
set_option linter.unusedVariables false
set_option linter.unusedSimpArgs false

namespace Go.Proofs.YtmeckbjinmgbbaaGreat
open Go.X

/-- A bucket's cells. -/
def bkt (most every time many : Int) : List Seg := [(1, [.int .i64 most]), (1, [.int .i64 every]), (1, [.int .i64 time]), (1, [.int .i64 many])]

theorem astore_calls (b o : Nat) (cs cs' : List Seg) (t : TypeId) (n : Int) (w : World) (hA : (Blk.cells cs t).Is w.heap[b]?) (hs : set1 cs (o + 0) (.int .i64 n) = some cs') :
    Calls Tryz.prog 80 [.pointer (some ⟨b, o, none⟩), .int .i64 n].toArray w fun e w' => e = .returned (.tuple #[]) ∧ HP w w' [b] [(b, .cells cs' t)] := by
  refine calls_of_W Tryz.func80 rfl Tryz.ntmps80 rfl rfl (HP.start (O := [b]) (L := [(b, .cells cs t)]) (by simpa using hA) (by simp) (by simp)) ?_
  refine W.region ?_
  refine WL.mv rfl rfl ?_
  refine WL.val rfl (V_nil rfl) ?_
  refine WL.val rfl (V_fieldAddr 0 1 (by kernel_rfl) rfl) ?_
  refine WL.mv rfl rfl ?_
  refine WL.eff (d := some 8) rfl (E_astore ⟨_, Tryz.func117, by kernel_rfl, by kernel_rfl, by kernel_rfl, by kernel_rfl⟩ rfl hs (.here _ _)) ?_; rintro _ _ ⟨rfl, rfl⟩
  refine WL.nil ?_
  refine WQ.ret0 (.inr rfl) Tryz.results80 ?_
  intro w' hp; exact ⟨rfl, hp⟩

/-- How many there are at a time. -/
def lvF (m e t n now : Int) : Int := min m (n + (now / e - t / e))
def takeT (t now : Int) : Int := if 1000000 < now then t else if now < t then t else now
def takeN (m e t n now : Int) : Int := if 1000000 < now then n else if now < t then n else if lvF m e t n now = 0 then 0 else lvF m e t n now - 1
/-- What a bucket's numbers keep to. -/
structure OkB (m e t n : Int) : Prop where
  m1 : 1 ≤ m
  m2 : m ≤ 1000
  e1 : 1 ≤ e
  e2 : e ≤ 1000
  t1 : 0 ≤ t
  t2 : t ≤ 1000000
  n1 : 0 ≤ n
  n2 : n ≤ m
theorem lvF_bd {m e t n now : Int} (h : OkB m e t n) (h1 : t ≤ now) : 0 ≤ lvF m e t n now ∧ lvF m e t n now ≤ m := by
  have := Int.ediv_le_ediv (c := e) (by have := h.e1; omega) h1
  have := h.n1; have := h.m1
  unfold lvF; omega
theorem OkB.take {m e t n : Int} (h : OkB m e t n) (now : Int) : OkB m e (takeT t now) (takeN m e t n now) := by
  have hb := fun h1 => lvF_bd (now := now) h h1
  obtain ⟨h1, h2, h3, h4, h5, h6, h7, h8⟩ := h
  unfold takeT takeN
  refine ⟨h1, h2, h3, h4, ?_, ?_, ?_, ?_⟩ <;> split <;> (try split) <;> (try split) <;> first | omega | (have := hb (by omega); omega)

end Go.Proofs.YtmeckbjinmgbbaaGreat