/- Who judges: open reports. -/
import Derived.Test.YtmeckbjinmgbbaaGreatLaws17
import Derived.Test.YtmeckbjinmgbbaaGreatXC
set_option linter.unusedVariables false
set_option linter.unusedSimpArgs false

namespace Go.Proofs.YtmeckbjinmgbbaaGreat
open Go.X
/-- What a report says, wherever its text lies. -/
structure AR where
  id : Int
  who : Int
  tl : List Int
  op : List Int
  st : StampS
abbrev RL := AR × Gr
def rlR (r : RL) : RepS := ⟨r.1.id, r.1.who, gA r.2, r.1.tl.length, gC r.2, r.1.tl, r.1.op, r.1.st⟩
def rlV (r : RL) : List Value := flat (rlR r).V
def rbL (r : RL) : List (Nat × Blk) := gL r.2 r.1.tl.length (iv .u8 r.1.tl) 5
structure ROK (r : RL) : Prop where
  ok : RepOK (rlR r)
  b : rB (rlR r) = true
  g : GrOK r.2 r.1.tl.length
def RsOK (rs : List RL) : Prop := (∀ r ∈ rs, ROK r) ∧ rs.length ≤ 8
theorem rV_len {r : RepS} (h : RepOK r) : (flat r.V).length = 103 := by
  obtain ⟨ho, -, hc, -, ht, -, -, -⟩ := h
  simp [RepS.V, flat, iv_len, ho, hc, ht]
theorem rV_one {r : RepS} : ∀ v ∈ flat r.V, Go.X.one v = true := fun v he => by
  simp only [RepS.V, flat, List.flatMap_cons, List.flatMap_nil, List.append_nil, List.mem_append, List.mem_cons, List.not_mem_nil, or_false] at he
  rcases he with rfl | rfl | rfl | he | rfl | rfl | rfl | rfl | he | he <;> first | rfl | exact iv_one _ he
theorem rlV_len {r : RL} (h : ROK r) : (rlV r).length = 103 := rV_len h.ok
theorem rlV_one {rs : List RL} : ∀ v ∈ rs.flatMap rlV, Go.X.one v = true := fun v hv => by
  obtain ⟨r, _, he⟩ := List.mem_flatMap.1 hv
  exact rV_one v he
theorem rls_len {rs : List RL} (h : ∀ r ∈ rs, ROK r) : (rs.flatMap rlV).length = rs.length * 103 := flatMap_len' fun r hr => rlV_len (h r hr)
def ridx : List AR → Int → Option Nat
  | [], _ => none
  | a :: l, i => if a.id = i then some 0 else (ridx l i).map (· + 1)
theorem ridx_at {i : Int} : ∀ {l : List AR} {n : Nat} {a : AR}, (∀ k a', k < n → l[k]? = some a' → a'.id ≠ i) → l[n]? = some a → a.id = i → ridx l i = some n
  | [], n, a, _, h, _ => by simp at h
  | x :: l, 0, a, _, h, he => by
    simp at h; subst h
    unfold ridx; rw [if_pos he]
  | x :: l, n + 1, a, hn, h, he => by
    have h0 := hn 0 x (by omega) rfl
    unfold ridx
    rw [if_neg h0, ridx_at (l := l) (n := n) (fun k a' hk h' => hn (k + 1) a' (by omega) h') (by simpa using h) he]; rfl
theorem ridx_end {i : Int} : ∀ {l : List AR}, (∀ k a', k < l.length → l[k]? = some a' → a'.id ≠ i) → ridx l i = none
  | [], _ => rfl
  | x :: l, hn => by
    have h0 := hn 0 x (by simp) rfl
    unfold ridx
    rw [if_neg h0, ridx_end (l := l) fun k a' hk h' => hn (k + 1) a' (by simp; omega) h']; rfl
def at24I (l : List AR) (i : Int) : Int := match ridx l i with
  | some n => n
  | none => -1
theorem rids {rs : List RL} {n : Nat} {id : Int} (h : ∀ k r, k < n → rs[k]? = some r → r.1.id ≠ id) : ∀ k a, k < n → (rs.map (·.1))[k]? = some a → a.id ≠ id := fun k a hk ha => by
  rw [List.getElem?_map, Option.map_eq_some_iff] at ha
  obtain ⟨r, hr, rfl⟩ := ha
  exact h k r hk hr
section
variable {c : Cx} {S : Slots} {L L' : List (Nat × Blk)} {ty T : TypeId} {x : Operand} {w0 w : World} {O : List Nat}
theorem rlsS {o : Gr} {rs : List RL} {t : TypeId} (hp : HP w0 w O L) (ho : GrOK o rs.length) (hrs : ∀ r ∈ rs, ROK r) (hd : DelL (gLM 103 o rs.length (rs.flatMap rlV) t) L L' := by exact dell) : SrW w 103 (gA o) rs.length (rs.flatMap rlV) :=
  HP.sgrM hp hd (rls_len hrs) ho rlV_one
theorem rbS {rs : List RL} {r : RL} (hp : HP w0 w O L) (hm : r ∈ rs) (hk : ROK r) (hd : DelL (rs.flatMap rbL) L L' := by exact dell) : SrW w 1 (gA r.2) r.1.tl.length (iv .u8 r.1.tl) := by
  have h2 := hp.perm hd.perm.symm
  obtain ⟨a, o⟩ := r
  cases o with
  | none =>
    have h0 : a.tl.length = 0 := hk.g
    have h1 : a.tl = [] := List.length_eq_zero_iff.1 h0
    dsimp only; rw [h1]; exact SrW.nil
  | some q =>
    have h3 : (q.1, .cells [(a.tl.length, iv .u8 a.tl), (q.2.1 - a.tl.length, q.2.2)] 5) ∈ rs.flatMap rbL := List.mem_flatMap.2 ⟨_, hm, by unfold rbL gL; exact List.mem_cons_self⟩
    exact HP.sown h2 (b := q.1) (List.mem_append_left _ h3) iv_one
theorem viGR {o : Gr} {b cc len cap i : Nat} {rs : List Value} {k : IntKind} {ix : Operand} (s : Nat) (ho : o = some (b, cc, rs)) (hx : ev S x = some (.slice (gA o) len cap) := by exact rfl) (hi : ev S ix = some (.int k (i : Int)) := by exact rfl) (hj : i < len := by omega) (ht : slB c.P T s = true := by kernel_rfl) : Val c S L (.indexAddr T x ix) ty (.pointer (some ⟨b, 0 + i * s, none⟩)) := by
  subst ho; exact viO s hx hi hj ht
theorem vldRL {o : Gr} {rs : List RL} {r : RL} {b cc q : Nat} {vs : List Value} (j : Nat) (hgo : o = some (b, cc, vs)) (hrs : ∀ r ∈ rs, ROK r) (hm : rs[j]? = some r) (hs : Sr c L 103 (gA o) rs.length (rs.flatMap rlV)) {ds : List Seg} (hd : flat ds = rlV r := by rfl)
    (ht : agB c.P T 103 = true := by kernel_rfl) (hx : ev S x = some (.pointer (some ⟨b, q, none⟩)) := by exact rfl) (hq : q = 0 + j * 103 := by omega) : Val c S L (.load T x) ty (AG ds) := by
  subst hgo
  exact vldOAs' 103 j (fun r hr => rlV_len (hrs r hr)) hs hm hd ht hx hq
end
theorem gr_open24 {o : Gr} {n : Nat} (h : GrOK o n) (h0 : 0 < n) : ∃ b c r, o = some (b, c, r) ∧ n ≤ c := by
  cases o with
  | none => exact absurd h (by show ¬ n = 0; omega)
  | some q => obtain ⟨b, c, r⟩ := q; exact ⟨b, c, r, rfl, h⟩

theorem at1_calls (r : RepS) (b : Nat) (id : Int) (w : World) (hr : RepOK r) (hA : AtW w b [(1, [.int .i64 id])]) :
    Calls Tryz.prog 71 [AG r.V, .pointer (some ⟨b, 0, none⟩)].toArray w fun e w' => e = .returned (.bool (decide (r.id = id))) ∧ HP w w' [] [] := by
 obtain ⟨ho, hob, hc, hcb, ht, htb, htl, htc⟩ := _root_.id hr
 unfold RepS.V
 refine calls_of_W Tryz.func71 rfl Tryz.ntmps71 rfl rfl (HP.refl w []) ?_
 refine sr ?_
 refine obxa (fun b2 => ?_)
 refine oas ?_
 refine nx ?_
 refine ov (vfa0 0 1) ?_
 refine ov vld ?_
 refine ov vld ?_
 refine ov (v2 V_eql) ?_
 refine oas ?_
 refine nq ?_
 refine W.ret ?_
 refine WQ.ret1 Tryz.results71 (.tmp rfl) ?_
 intro w' hp; exact ⟨by first | rfl | (simp; done) | (simp [*]; done) | simp_all, hp.forget⟩

theorem idxf_calls (o : Gr) (rs : List RL) (hg : GrOK o rs.length) (hrs : RsOK rs) (b : Nat) (id : Int) (w : World) (hs : SrW w 103 (gA o) rs.length (rs.flatMap rlV)) (hA : AtW w b [(1, [.int .i64 id])]) :
    Calls Tryz.prog 70 [.slice (gA o) rs.length (gC o), .func (.func 71) #[] #[.pointer (some ⟨b, 0, none⟩)]].toArray w fun e w' => e = .returned (.int .i64 (at24I (rs.map (·.1)) id)) ∧ HP w w' [] [] := by
 have hl8 := hrs.2
 refine calls_of_W Tryz.func70 rfl Tryz.ntmps70 rfl rfl (HP.refl w []) ?_
 refine sr ?_
 refine oas ?_
 refine nq ?_
 refine W.seq ?_
 refine sr ?_
 refine omv ?_
 refine ov vlenS ?_
 refine omv ?_
 refine nq ?_
 refine W.block ?_
 -- LOOP 0
 refine W.pick (S' := [(8, _), (0, _), (1, _), (4, _), (7, _)]) [8, 0, 1, 4, 7] rfl ?_
 refine W.loopG (σ := Nat) (fun i => i ≤ rs.length ∧ ∀ k r, k < i → rs[k]? = some r → r.1.id ≠ id) (fun i => [(8, .int .i64 (i : Nat))]) (fun i => []) [] (fun i => []) (fun i => rs.length - i) 0 rfl cov ⟨Nat.zero_le _, fun k r hk => by omega⟩ ?_
 rintro i ⟨hi, hne⟩; dsimp only at hi hne ⊢
 refine sr ?_
 refine ov (v2 V_lss) ?_
 refine nq ?_
 refine W.seq ?_
 refine W.cond_dec rfl (fun g1 => ?_) (fun g1 => ?_)
 · refine W.skip ?_
   refine WQ.then ?_
   refine W.seq ?_
   refine W.block ?_
   refine sr ?_
   refine omv ?_
   refine oas ?_
   refine nq ?_
   refine W.seq ?_
   obtain ⟨gb, gc, grs, hgo, hgc⟩ := gr_open24 hg (by omega)
   obtain ⟨r, hr⟩ : ∃ r, rs[i]? = some r := ⟨_, List.getElem?_eq_getElem (by omega)⟩
   have hrk := hrs.1 r (List.mem_of_getElem? hr)
   refine W.region ?_
   refine omv ?_
   refine omv ?_
   refine omv ?_
   refine ov (viGR 103 hgo) ?_
   refine ov (vldRL i hgo hrs.1 hr (fun w hp => hs.old0 w hp) (ds := (rlR r).V)) ?_
   refine cpV rfl rfl (fun w hp => at1_calls (rlR r) b id w hrk.ok (hA.step hp (by first | (simp; done) | simp [*]))) ?_
   refine nq ?_
   refine W.cond_dec rfl (fun g2 => ?_) (fun g2 => ?_)
   · refine W.seq ?_
     refine W.region ?_
     refine omv ?_
     refine oas ?_
     refine nq ?_
     refine W.ret ?_
     refine WQ.block_ret ?_
     refine WQ.then_ret ?_
     refine WQ.then_ret ?_
     refine WQ.block_ret ?_
     refine WQ.then_ret ?_
     refine WQ.ret1 Tryz.results70 (.tmp rfl) ?_
     intro w' hp; have e : ridx (rs.map (·.1)) id = some i := ridx_at (rids hne) (by rw [List.getElem?_map, hr]; rfl) (by assumption); unfold at24I; rw [e]; exact ⟨rfl, hp.forget⟩
   · refine W.skip ?_
     refine WQ.block_normal ?_
     refine WQ.then ?_
     refine W.region ?_
     first | refine ov vaddN ?_ | refine ov vadd ?_
     refine omv ?_
     refine WL.nil ?_
     exact ag (i + 1) [8, 0, 1, 4, 7] (by (try dsimp only); exact ⟨by omega, fun k r' hk h' => by
       by_cases e2 : k = i
       · subst e2; rw [hr] at h'; cases h'; assumption
       · exact hne k r' (by omega) h'⟩) (by (try dsimp only); omega) rfl cov
 · refine W.exit ?_
   refine WQ.then_exit ?_
   refine WQ.then_exit ?_
   refine WQ.block_hit ?_
   refine WQ.then ?_
   refine sr ?_
   refine oas ?_
   refine nq ?_
   refine W.ret ?_
   refine WQ.ret1 Tryz.results70 (.tmp rfl) ?_
   intro w' hp; obtain rfl : i = rs.length := by omega
   have e : ridx (rs.map (·.1)) id = none := ridx_end (fun k a hk => rids hne k a (by simpa using hk)); unfold at24I; rw [e]; exact ⟨rfl, hp.forget⟩

def modS (R j : Nat) (o : Gr) (n : Nat) (jm : Nat) (tk : List Nat) : List Seg := [(1, [.pointer (some ⟨R, 0, none⟩)]), (1, [.pointer (some ⟨j, 0, none⟩)]), (1, [.slice (gA o) n (gC o)]), (1, [.map (some jm)]), (8, tk.map fun p => .pointer (some ⟨p, 0, none⟩))]
theorem at24_calls (M R j jm : Nat) (tk : List Nat) (o : Gr) (rs : List RL) (hg : GrOK o rs.length) (hrs : RsOK rs) (id : Int) (w : World) (hA : AtW w M (modS R j o rs.length jm tk)) (hs : SrW w 103 (gA o) rs.length (rs.flatMap rlV)) :
    Calls Tryz.prog 34 [.pointer (some ⟨M, 0, none⟩), .int .i64 id].toArray w fun e w' => e = .returned (.int .i64 (at24I (rs.map (·.1)) id)) ∧ HP w w' [] [] := by
 unfold modS at hA
 refine calls_of_W Tryz.func34 rfl Tryz.ntmps34 rfl rfl (HP.refl w []) ?_
 refine sr ?_
 refine obx (fun b3 => ?_)
 refine oas ?_
 refine nx ?_
 refine omv ?_
 refine ov vnil ?_
 refine ov (vfa0 2 1) ?_
 refine ov vld ?_
 refine ov V_makeFunc ?_
 refine cp rfl (fun w hp => idxf_calls o rs hg hrs b3 id w (hs.old0 w hp) hat) ?_
 refine oas ?_
 refine nq ?_
 refine W.ret ?_
 refine WQ.ret1 Tryz.results34 (.tmp rfl) ?_
 intro w' hp; exact ⟨by first | rfl | (simp; done) | (simp [*]; done) | simp_all, hp.forget⟩

theorem del24_calls (b n cap i : Nat) (xs rs : List Value) (hi : i < n) (hn : n ≤ cap) (hb : n ≤ 1000000) (hxl : xs.length = n * 103) (hx1 : ∀ v ∈ xs, Go.X.one v = true) (w : World) (hp0 : HP w w [b] [(b, .cells [(n * 103, xs), ((cap - n) * 103, rs)] 69)]) :
    Calls Tryz.prog 37 [.slice (some ⟨b, 0, none⟩) n cap, .int .i64 (i : Int), .int .i64 ((i : Int) + 1)].toArray w fun e w' => ∃ rs' : List Value, True ∧ e = .returned (.slice (some ⟨b, 0, none⟩) (n - 1) cap) ∧ HP w w' [b] [(b, .cells [((n - 1) * 103, xs.take (i * 103) ++ xs.drop ((i + 1) * 103)), ((cap - (n - 1)) * 103, rs')] 69)] := by
 have hrl : rs.length = (cap - n) * 103 := by
   obtain ⟨hf, _⟩ := hp0.held _ List.mem_cons_self
   exact hf.cons.2.cons.1
 refine calls_of_W Tryz.func37 rfl Tryz.ntmps37 rfl rfl hp0 ?_
 refine sr ?_
 refine oas ?_
 refine nx ?_
 refine omv ?_
 refine omv ?_
 refine omv ?_
 refine omv ?_
 refine ov vlenS ?_
 refine ov ((V_slice3 (l := i) (h := i + 1) (m := n) rfl rfl rfl rfl rfl (by omega) rfl (by omega) (by omega) (by omega) (s := 103))) ?_
 refine nq ?_
 refine W.seq ?_
 refine sr ?_
 refine omv ?_
 refine omv ?_
 refine ov (v2 V_eql) ?_
 refine nq ?_
 refine W.cond_false rfl (decide_eq_false (by omega)) ?_
 refine W.skip ?_
 refine WQ.then ?_
 refine sr ?_
 refine omv ?_
 refine ov vlenS ?_
 refine oas ?_
 refine nq ?_
 refine W.seq ?_
 refine W.reseg [(i * 103, xs.take (i * 103)), ((cap - i) * 103, xs.drop (i * 103) ++ rs)] ?_ (take_take_drop hi hn hxl) (fit_cut hi hn hxl hrl)
 refine dr (.q 0 (.q 1 (.q 2 (.q 3 (.q 4 (.q 5 (.l 6 (.q 7 (.done))))))))) [] ?_
 refine dq rfl (V_move rfl) ?_
 refine dq rfl (V_move rfl) ?_
 refine dq rfl (vslT 103 (s := 103) (h := i)) ?_
 refine dq rfl (V_move rfl) ?_
 refine dq rfl (V_move rfl) ?_
 refine dq rfl (vslFr 103 (l := i + 1)) ?_
 refine WD.l ?_
 refine dapIn rfl 69 168 (n := i) (m := n - (i + 1)) (N := n - 1) (xs := xs.take (i * 103)) (s := 103) (rest := xs.drop (i * 103) ++ rs) (ys := xs.drop ((i + 1) * 103)) (fun w hp => cut_sr hp (.here _) hi hn hxl hrl hx1) (by omega) (by repeat (first | exact Upd.here _ _ | apply Upd.there)) ?_
 refine dq rfl (V_assign rfl) ?_
 refine WD.done ?_
 refine WQ.then ?_
 refine sr ?_
 refine omv ?_
 refine omv ?_
 refine ov vlenS ?_
 refine omv ?_
 refine ov (vslM 103 (l := n - 1) (h := n)) ?_
 refine oclrM (k := n - 1) (m := n - (n - 1)) (s := 103) (R := (cap - (n - 1)) * 103) 69 69 168 (fun rs2 => ?_)
 refine nx ?_
 refine omv ?_
 refine oas ?_
 refine nq ?_
 refine W.ret ?_
 refine WQ.ret1 Tryz.results37 (.tmp rfl) ?_
 intro w' hp; exact ⟨_, trivial, rfl, hp.cov cov⟩

end Go.Proofs.YtmeckbjinmgbbaaGreat