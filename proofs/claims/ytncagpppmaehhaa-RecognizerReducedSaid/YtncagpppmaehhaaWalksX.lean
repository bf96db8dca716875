/- The walks of the recognizer: last, sentence, Recognize, Viable; conditions: lengths. -/
import Derived.Test.YtncagpppmaehhaaWalksU
namespace Go.Proofs.Ytncagpppmaehhaa
open Go Go.Fx Go.Proofs

open Go.Proofs.Rec
theorem c_keepAll {w0 : World} {K : List Nat} {n : Sz} {N : Act → World → Prop} {L : Slots} {σ : Fx.Own} {ρ : Fx.Facts} (l : Fx.Own) (h : Cont w0 K n N L σ (KeepF l :: ρ)) : Cont w0 K n N L (l ++ σ) ρ := fun a w hf hs => h a w hf (hs.keepAll l)
/-- the last set of a run -/
def lastS (z : RunV) : ES := nthS z.L (z.L.length - 1)
structure LastP (X : GI) (s : List Int) (z : RunV) : Prop where
  at_ : z.L[s.length]? = some (lastS z)
  ok : (lastS z).ok
  set : IsSet X.g s s.length (lastS z).es
  all : ∀ x, It X.g s s.length x → x ∈ (lastS z).es
  ptr : z.bs[z.bs.length - 1]? = some (lastS z).b
  pos : 0 < z.bs.length
theorem RunV.Ok.last {X : GI} {s : List Int} {z : RunV} (h : z.Ok X s) : LastP X s z := by
  have h1 : z.L[s.length]? = some (lastS z) := by
    unfold lastS
    rw [h.len, Nat.add_sub_cancel]
    exact nthS_lt (by rw [h.len]; omega)
  obtain ⟨h2, h3, h4⟩ := h.full _ _ h1
  refine ⟨h1, h2, h3, h4, ?_, ?_⟩
  · rw [h.bs, List.length_map, h.len, Nat.add_sub_cancel, List.getElem?_map, h1]; rfl
  · rw [h.bs, List.length_map, h.len]; omega
noncomputable def sentP (X : GI) (x : Im) : Bool := Ana.dec (x.f = 0 ∧ ∃ rx, X.xs[x.k]? = some rx ∧ rx.r.head = X.start ∧ x.d = rx.r.body.length)
theorem sentP_yes {X : GI} {x : Im} {rx : XR} (h : X.xs[x.k]? = some rx) (h1 : x.f = 0) (h2 : rx.r.head = X.start) (h3 : x.d = rx.r.body.length) : sentP X x = true := Ana.dec_true ⟨h1, rx, h, h2, h3⟩
theorem sentP_no {X : GI} {x : Im} {rx : XR} (h : X.xs[x.k]? = some rx) (hn : ¬ (x.f = 0 ∧ rx.r.head = X.start ∧ x.d = rx.r.body.length)) : sentP X x = false := Ana.dec_false fun ⟨h1, ry, h2, h3, h4⟩ => by
  rw [h] at h2
  injection h2 with h2
  subst h2
  exact hn ⟨h1, h3, h4⟩
theorem sentP_iff {X : GI} {x : Im} {rx : XR} (h : X.xs[x.k]? = some rx) : sentP X x = decide (x.f = 0 ∧ rx.r.head = X.start ∧ x.d = rx.r.body.length) := by
  by_cases hp : x.f = 0 ∧ rx.r.head = X.start ∧ x.d = rx.r.body.length
  · rw [decide_eq_true hp, sentP_yes h hp.1 hp.2.1 hp.2.2]
  · rw [decide_eq_false hp, sentP_no h hp]
theorem any_sent {X : GI} (ok : Ana.Ok2 X.g) {s : List Int} {z : RunV} (h : LastP X s z) : (lastS z).es.any (sentP X) = sentB X.g s := by
  refine Ana.eq_dec ?_
  rw [← sent_iff ok.h0 ok.s0, List.any_eq_true]
  constructor
  · rintro ⟨x, hx, hp⟩
    obtain ⟨h1, rx, h2, h3, h4⟩ := Ana.dec_iff.1 hp
    exact ⟨x, rx.r, h.set.2 x hx, rule_at h2, h1, h3, h4⟩
  · rintro ⟨x, r, hi, hr, h1, h2, h3⟩
    obtain ⟨rx, hrx, rfl⟩ := at_rule hr
    exact ⟨x, h.all x hi, sentP_yes hrx h1 h2 h3⟩
theorem some_via {X : GI} (ok : Ana.Ok2 X.g) {s : List Int} {z : RunV} (h : LastP X s z) : decide (0 < (lastS z).es.length) = viaB X.g s := by
  refine Ana.eq_dec ?_
  rw [← via_iff ok.h0 ok.s0, decide_eq_true_iff]
  constructor
  · intro hl
    exact ⟨_, h.set.2 _ (List.getElem_mem hl)⟩
  · rintro ⟨x, hi⟩
    exact List.length_pos_of_mem (h.all x hi)
theorem keep_last {X : GI} {s : List Int} {z : RunV} {l : Fx.Own} {w : World} (h : LastP X s z) (hl : ∀ y, y ∈ z.own X → y ∈ l) (hk : KeepF l w) : w.cell? ⟨(lastS z).b, 0 + 0, none⟩ = some (.slice (lastS z).A (lastS z).es.length (lastS z).c) ∧ Sl 3 imF (lastS z).A (lastS z).es w :=
  set_holds fun y hy => hk y (hl y (List.mem_cons_of_mem _ (List.mem_cons_of_mem _ (mem_setsO h.at_ y hy))))
theorem own_left {l m : Fx.Own} : ∀ y, y ∈ l → y ∈ l ++ m := fun _ h => List.mem_append.2 (.inl h)
theorem call_23 : Callable Try.prog 23 := ⟨_, Try.func23, by kernel_rfl, rfl⟩
theorem call_24 : Callable Try.prog 24 := ⟨_, Try.func24, by kernel_rfl, rfl⟩
theorem call_27 : Callable Try.prog 27 := ⟨_, Try.func27, by kernel_rfl, rfl⟩
theorem call_38 : Callable Try.prog 38 := ⟨_, Try.func38, by kernel_rfl, rfl⟩
theorem last_ok (X : GI) (s : List Int) (z : RunV) (hz : LastP X s z) (l : Fx.Own) (hl : ∀ y, y ∈ z.own X → y ∈ l) (hbl : z.bs.length ≤ 1000000) (ρ : Fx.Facts) (w : World) (h : St w [] w [] (KeepF l :: ρ)) :
   Calls Try.prog 27 #[.pointer (some ⟨z.p, 0, none⟩)] w (Ret fun v w' => v = .slice (lastS z).A (lastS z).es.length (lastS z).c ∧ Ext [] w w') := by
 refine calls_fx (l := [.pointer (some ⟨z.p, 0, none⟩)]) Try.func27 rfl Try.ntmps27 (Nat.le_of_ble_eq_true rfl) h ?_
 refine c_seq ?_
 have hpos := hz.pos
 have hbsl : z.bs.length ≤ 1000000 := hbl
 refine c_reg ?_
 refine l_q (by decide) (p_assign rfl).q ?_
 refine l_nil ?_
 refine c_seq ?_
 refine c_draw mixed (by decide +kernel) ?_
 refine q_q (by decide) (p_move rfl).q ?_
 refine q_q (by decide) (p_nilp rfl).q ?_
 refine q_q (by decide) (p_faddro (i := 2) 5 Try.underlying62 rfl inf_60 (by decide) rfl rfl).q ?_
 refine q_q (by decide) (r_loadq (q := KeepF l) Try.underlying60 rfl rfl (by repeat constructor) (fun w h => p_cell (h _ (hl _ (List.mem_cons_self ..))) rfl)).q ?_
 refine q_q (by decide) (p_move rfl).q ?_
 refine q_q (by decide) (p_nilp rfl).q ?_
 refine q_q (by decide) (p_faddro (i := 2) 5 Try.underlying62 rfl inf_60 (by decide) rfl rfl).q ?_
 refine q_q (by decide) (r_loadq (q := KeepF l) Try.underlying60 rfl rfl (by repeat constructor) (fun w h => p_cell (h _ (hl _ (List.mem_cons_self ..))) rfl)).q ?_
 refine q_q (by decide) (p_len_sl Try.underlying60 rfl).q ?_
 refine q_q (by decide) (p_sub (j := 1) rfl rfl rfl rfl (by omega) (by show _ ≤ (9223372036854775807 : Nat); omega)).q ?_
 refine q_q (by decide) (r_index (es := z.bs) (f := ptrF) (A := z.A) (j := z.bs.length - 1) Try.underlying60 inf_56 rfl rfl rfl (SlIn.keep (l := l) (e := 56) (c := z.c) (by repeat constructor) (hl _ (List.mem_cons_of_mem _ (List.mem_cons_self ..))) (by decide) (fun _ => rfl)) rfl (by omega)).q ?_
 refine q_q (by decide) (r_load1 (f := ptrF) (A := z.A) (es := z.bs) (j := z.bs.length - 1) Try.underlying56 rfl rfl (SlIn.keep (l := l) (e := 56) (c := z.c) (by repeat constructor) (hl _ (List.mem_cons_of_mem _ (List.mem_cons_self ..))) (by decide) (fun _ => rfl)) hz.ptr rfl).q ?_
 refine q_q (by decide) (p_nilp rfl).q ?_
 refine q_q (by decide) (p_faddro (i := 0) 0 Try.underlying59 rfl inf_46 (by decide) rfl rfl).q ?_
 refine q_q (by decide) (r_loadh Try.underlying46 rfl rfl (fun w hs => (keep_last hz hl (hs.facts (KeepF l) (by repeat constructor)).1).1)).q ?_
 refine q_q (by decide) (p_assign rfl).q ?_
 refine q_nil ?_
 refine c_ret ?_
 refine c_ret1 rfl rfl (fun w hs => ?_)
 exact ⟨rfl, hs.ext⟩

theorem sent1_ok (X : GI) (hX : X.small) (p bo n cs : Nat) (Ar : Option Addr) (bb : Nat) (x : Im) (rx : XR) (hrx : X.xs[x.k]? = some rx) (w : World) (hM : X.mem w) (h1 : (iCells bb 40 [.pointer (some ⟨p, 0, none⟩)]).holds w) (h2 : (iCells p 62 (pCells X bo Ar n cs)).holds w) :
   Calls Try.prog 38 #[imK x, .pointer (some ⟨bb, 0, none⟩)] w (Ret fun v w' => v = .bool (sentP X x) ∧ Ext [] w w') := by
 have hxl := hX.x
 refine calls_fx (l := [imK x, .pointer (some ⟨bb, 0, none⟩)]) Try.func38 rfl Try.ntmps38 (Nat.le_of_ble_eq_true rfl) (((X.begin hM).old h2 (old_cells h2)).old h1 (old_cells h1)) ?_
 refine c_seq ?_
 have hxk : x.k < X.xs.length := (List.getElem?_eq_some_iff.1 hrx).1
 refine c_reg ?_
 refine l_box (by decide) rfl _ rfl (fun b2 => ?_)
 refine l_q (by decide) (p_assign rfl).q ?_
 refine l_nil ?_
 refine c_seq ?_
 refine m_draw [] mixed ?_
 refine m_take 0 rfl (by kernel_rfl) (by decide) (by exact (List.Perm.refl _ : List.Perm _ ([] ++ _))) (by exact fun _ h => h) (r_loadq (q := (iCells bb 40 [.pointer (some ⟨p, 0, none⟩)]).holds) Try.underlying40 rfl rfl (by repeat constructor) (fun w h => (cells_cell h 0).trans rfl)).r ?_
 refine m_takep 1 rfl (by kernel_rfl) (by decide) (p_nilp rfl) ?_
 refine m_takep 2 rfl (by kernel_rfl) (by decide) (p_faddro (i := 0) 0 Try.underlying62 rfl inf_25 (by decide) rfl rfl) ?_
 refine m_takep 3 rfl (by kernel_rfl) (by decide) (p_faddro (i := 3) 3 Try.underlying25 rfl inf_23 (by decide) rfl rfl) ?_
 refine m_take 4 rfl (by kernel_rfl) (by decide) (by exact (List.Perm.refl _ : List.Perm _ ([] ++ _))) (by exact fun _ h => h) (r_loadq (q := (iCells p 62 (pCells X bo Ar n cs)).holds) Try.underlying23 rfl rfl (by repeat constructor) (fun w h => p_cell h rfl)).r ?_
 refine m_takep 5 rfl (by kernel_rfl) (by decide) (p_faddro (i := 0) 0 Try.underlying52 rfl inf_3 (by decide) rfl rfl) ?_
 refine m_take 6 rfl (by kernel_rfl) (by decide) (by exact (List.Perm.refl _ : List.Perm _ ([] ++ _))) (by exact fun _ h => h) (r_loado Try.underlying3 rfl rfl (by repeat constructor) (by rfl)).r ?_
 refine m_take 7 rfl (by kernel_rfl) (by decide) (by exact (List.Perm.refl _ : List.Perm _ ([] ++ _))) (by exact fun _ h => h) (r_index Try.underlying23 inf_49 rfl rfl rfl (by exact .fact (by repeat constructor)) rfl (by omega)).r ?_
 refine m_take 8 rfl (by kernel_rfl) (by decide) (by exact (List.Perm.refl _ : List.Perm _ ([] ++ _))) (by exact fun _ h => h) (r_loada Try.underlying49 rfl inf_49 rfl (by exact .fact (by repeat constructor)) (by assumption)).r ?_
 refine m_run 9 rfl (by kernel_rfl) ?_
 refine l_alloc (by decide) inf_49 _ rfl (fun b4 => ?_)
 refine l_nil ?_
 refine m_next _ (by exact (List.Perm.refl _ : List.Perm _ ([_] ++ _))) (by exact fun _ h => h) ?_
 refine m_run 10 rfl (by kernel_rfl) ?_
 (refine l_storew inf_49 rfl rfl rfl rfl rfl ?_)
 refine l_nil ?_
 refine m_next _ (by exact (List.Perm.refl _ : List.Perm _ ([_] ++ _))) (by exact fun _ h => h) ?_
 refine m_done (by kernel_rfl) ?_
 refine c_seq ?_
 refine c_draw mixed (by decide +kernel) ?_
 refine q_q (by decide) (p_faddro (i := 2) 2 Try.underlying52 rfl inf_3 (by decide) rfl rfl).q ?_
 refine q_q (by decide) (r_loado Try.underlying3 rfl rfl (by repeat constructor) (by rfl)).q ?_
 refine q_q (by decide) (p_eql (j := 0) rfl rfl rfl rfl).q ?_
 refine q_q (by decide) (p_move rfl).q ?_
 refine q_splitd (t := 17) rfl (fun h17 => ?_) (fun h17 => ?_)
 ·skip
  refine q_g (j := 3) rfl rfl (by decide) (p_faddro (i := 0) 0 Try.underlying49 rfl inf_3 (by decide) rfl rfl).q ?_
  refine q_g (j := 3) rfl rfl (by decide) (r_loado Try.underlying3 rfl rfl (by repeat constructor) (by rfl)).q ?_
  refine q_g (j := 3) rfl rfl (by decide) (r_loadq (q := (iCells bb 40 [.pointer (some ⟨p, 0, none⟩)]).holds) Try.underlying40 rfl rfl (by repeat constructor) (fun w h => (cells_cell h 0).trans rfl)).q ?_
  refine q_g (j := 3) rfl rfl (by decide) (p_nilp rfl).q ?_
  refine q_g (j := 3) rfl rfl (by decide) (p_faddro (i := 0) 0 Try.underlying62 rfl inf_25 (by decide) rfl rfl).q ?_
  refine q_g (j := 3) rfl rfl (by decide) (p_faddro (i := 2) 2 Try.underlying25 rfl inf_3 (by decide) rfl rfl).q ?_
  refine q_g (j := 3) rfl rfl (by decide) (r_loadq (q := (iCells p 62 (pCells X bo Ar n cs)).holds) Try.underlying3 rfl rfl (by repeat constructor) (fun w h => p_cell h rfl)).q ?_
  refine q_g (j := 3) rfl rfl (by decide) (p_eqli rfl rfl).q ?_
  refine q_q (by decide) (p_pick rfl rfl).q ?_
  refine q_q (by decide) (p_move rfl).q ?_
  refine q_splitd (t := 27) rfl (fun h27 => ?_) (fun h27 => ?_)
  ·skip
   refine q_g (j := 13) rfl rfl (by decide) (p_faddro (i := 1) 1 Try.underlying52 rfl inf_3 (by decide) rfl rfl).q ?_
   refine q_g (j := 13) rfl rfl (by decide) (r_loado Try.underlying3 rfl rfl (by repeat constructor) (by rfl)).q ?_
   refine q_g (j := 13) rfl rfl (by decide) (p_faddro (i := 1) 1 Try.underlying49 rfl inf_26 (by decide) rfl rfl).q ?_
   refine q_g (j := 13) rfl rfl (by decide) (r_loado Try.underlying26 rfl rfl (by repeat constructor) (by rfl)).q ?_
   refine q_g (j := 13) rfl rfl (by decide) (p_len_sl Try.underlying26 rfl).q ?_
   refine q_g (j := 13) rfl rfl (by decide) (p_eql rfl rfl rfl rfl).q ?_
   refine q_q (by decide) (p_pick rfl rfl).q ?_
   refine q_q (by decide) (p_assign rfl).q ?_
   refine q_nil ?_
   refine c_ret ?_
   refine c_ret1 rfl rfl (fun w hs => ?_)
   refine ⟨?_, hs.ext⟩
   rw [sentP_iff hrx]
   congr 1
   exact decide_eq_decide.2 ⟨fun h => ⟨h17, h27, h⟩, fun h => h.2.2⟩
  ·skip
   refine q_off (j := 13) rfl rfl (by (simp; done)) (by decide) ?_
   refine q_off (j := 13) rfl rfl (by (simp; done)) (by decide) ?_
   refine q_off (j := 13) rfl rfl (by (simp; done)) (by decide) ?_
   refine q_off (j := 13) rfl rfl (by (simp; done)) (by decide) ?_
   refine q_off (j := 13) rfl rfl (by (simp; done)) (by decide) ?_
   refine q_off (j := 13) rfl rfl (by (simp; done)) (by decide) ?_
   refine q_q (by decide) (p_pick rfl rfl).q ?_
   refine q_q (by decide) (p_assign rfl).q ?_
   refine q_nil ?_
   refine c_ret ?_
   refine c_ret1 rfl rfl (fun w hs => ?_)
   exact ⟨by rw [sentP_no hrx (fun h => h27 h.2.1)], hs.ext⟩
 ·skip
  refine q_off (j := 3) rfl rfl (by (simp; done)) (by decide) ?_
  refine q_off (j := 3) rfl rfl (by (simp; done)) (by decide) ?_
  refine q_off (j := 3) rfl rfl (by (simp; done)) (by decide) ?_
  refine q_off (j := 3) rfl rfl (by (simp; done)) (by decide) ?_
  refine q_off (j := 3) rfl rfl (by (simp; done)) (by decide) ?_
  refine q_off (j := 3) rfl rfl (by (simp; done)) (by decide) ?_
  refine q_off (j := 3) rfl rfl (by (simp; done)) (by decide) ?_
  refine q_off (j := 3) rfl rfl (by (simp; done)) (by decide) ?_
  refine q_q (by decide) (p_pick rfl rfl).q ?_
  refine q_q (by decide) (p_move rfl).q ?_
  refine q_off (j := 13) rfl rfl (by (simp; done)) (by decide) ?_
  refine q_off (j := 13) rfl rfl (by (simp; done)) (by decide) ?_
  refine q_off (j := 13) rfl rfl (by (simp; done)) (by decide) ?_
  refine q_off (j := 13) rfl rfl (by (simp; done)) (by decide) ?_
  refine q_off (j := 13) rfl rfl (by (simp; done)) (by decide) ?_
  refine q_off (j := 13) rfl rfl (by (simp; done)) (by decide) ?_
  refine q_q (by decide) (p_pick rfl rfl).q ?_
  refine q_q (by decide) (p_assign rfl).q ?_
  refine q_nil ?_
  refine c_ret ?_
  refine c_ret1 rfl rfl (fun w hs => ?_)
  exact ⟨by rw [sentP_no hrx (fun h => h17 h.1)], hs.ext⟩

theorem sentence_ok (X : GI) (hX : X.small) (ok : Ana.Ok2 X.g) (s : List Int) (hsl : s.length ≤ 40) (z : RunV) (hz : LastP X s z) (l : Fx.Own) (hl : ∀ y, y ∈ z.own X → y ∈ l) (hbl : z.bs.length ≤ 1000000) (w : World) (h : St w [] w [] (KeepF l :: [Bd X.xs, Sl 3 ruF X.Ar X.xs, Sl 1 strF X.An X.nts, Sl 1 strF X.At X.terms])) :
   Calls Try.prog 24 #[.pointer (some ⟨z.p, 0, none⟩)] w (Ret fun v w' => v = .bool (sentB X.g s) ∧ Ext [] w w') := by
 refine calls_fx (l := [.pointer (some ⟨z.p, 0, none⟩)]) Try.func24 rfl Try.ntmps24 (Nat.le_of_ble_eq_true rfl) h ?_
 refine c_seq ?_
 have hlen := hz.set.len ok hsl
 refine c_reg ?_
 refine l_box (by decide) rfl _ rfl (fun b1 => ?_)
 refine l_q (by decide) (p_assign rfl).q ?_
 refine l_nil ?_
 refine c_seq ?_
 refine c_reg ?_
 refine l_q (by decide) (r_loado Try.underlying40 rfl rfl (by repeat constructor) (by rfl)).q ?_
 refine l_q (by decide) (q_call call_27 rfl (fun w hs => last_ok X s z hz l hl hbl _ w (hs.quiet.weak (fun q h => List.mem_cons_of_mem _ h)))) ?_
 refine l_q (by decide) (p_makeFn rfl rfl).q ?_
 refine l_q (by decide) (q_call call_37 rfl (fun w hs => containsm_ok 38 call_38 #[.pointer (some ⟨b1, 0, none⟩)] (sentP X) (lastS z).A (lastS z).c (lastS z).es (by omega) w (keep_last hz hl (hs.facts (KeepF l) (by repeat constructor)).1).2 (fun x hx w2 he => by
  obtain ⟨r0, hg⟩ := (hz.set.2 x hx).good ok.h0
  obtain ⟨rx, hrx, _⟩ := at_rule hg.rule
  exact sent1_ok X hX z.p z.bo z.bs.length z.c z.A b1 x rx hrx w2 (GI.of (hs.move he) (by repeat constructor) (by repeat constructor) (by repeat constructor) (by repeat constructor)) (hold_ext hs (x := iCells b1 40 [.pointer (some ⟨z.p, 0, none⟩)]) (by repeat constructor) he) (((hs.move he).facts (KeepF l) (by repeat constructor)).1 _ (hl _ (List.mem_cons_self ..)))))) ?_
 refine l_q (by decide) (p_assign rfl).q ?_
 refine l_nil ?_
 refine c_ret ?_
 refine c_ret1 rfl rfl (fun w hs => ?_)
 exact ⟨by rw [any_sent ok hz], hs.ext⟩

theorem recognize_ok (X : GI) (hX : X.small) (As : Option Addr) (cs : Nat) (s : List Int) (hsl : s.length ≤ 40) (w : World) (hM : X.mem w) (ok : Ana.Ok2 X.g) (hp : Sl 1 intF As s w) :
   Calls Try.prog 12 #[.agg #[.slice X.At X.terms.length X.ct, .slice X.An X.nts.length X.cn, .int .i64 X.start, .slice X.Ar X.xs.length X.cr], .slice As s.length cs] w (Ret fun v w' => v = .bool (sentB X.g s) ∧ Ext [] w w') := by
 refine calls_fx (l := [.agg #[.slice X.At X.terms.length X.ct, .slice X.An X.nts.length X.cn, .int .i64 X.start, .slice X.Ar X.xs.length X.cr], .slice As s.length cs]) Try.func12 rfl Try.ntmps12 (Nat.le_of_ble_eq_true rfl) ((X.begin hM).old hp (dep_sl (by decide) hp)) ?_
 refine c_seq ?_
 refine c_reg ?_
 refine l_box (by decide) rfl _ rfl (fun b2 => ?_)
 refine l_q (by decide) (p_assign rfl).q ?_
 refine l_nil ?_
 refine c_seq ?_
 refine c_reg ?_
 refine l_q (by decide) (r_loadow Try.underlying25 rfl inf_25 rfl (by repeat constructor) (by rfl)).q ?_
 refine l_q (by decide) (p_move rfl).q ?_
 refine l_callo (τ := []) (fun z : RunR X s => .pointer (some ⟨z.1.p, 0, none⟩)) (fun z => z.1.own X) (by decide) call_23 rfl (fun w hs => run_ok X hX As cs s hsl w (GI.of hs (by repeat constructor) (by repeat constructor) (by repeat constructor) (by repeat constructor)) ok (hs.facts (Sl 1 intF As s) (by repeat constructor)).1) (fun zz => ?_)
 obtain ⟨z, hzo⟩ := zz
 have hz := hzo.last
 have hbl : z.bs.length ≤ 1000000 := by rw [hzo.bs, List.length_map, hzo.len]; omega
 refine l_q (by decide) (q_call call_24 rfl (fun w hs => sentence_ok X hX ok s hsl z hz (z.own X ++ [iCells b2 25 [.slice X.At X.terms.length X.ct, .slice X.An X.nts.length X.cn, .int .i64 X.start, .slice X.Ar X.xs.length X.cr]]) own_left hbl w (hs.quiet.weak two_facts))) ?_
 refine l_q (by decide) (p_assign rfl).q ?_
 refine l_nil ?_
 refine c_ret ?_
 refine c_ret1 rfl rfl (fun w hs => ?_)
 exact ⟨rfl, hs.ext⟩

theorem viable_ok (X : GI) (hX : X.small) (As : Option Addr) (cs : Nat) (s : List Int) (hsl : s.length ≤ 40) (w : World) (hM : X.mem w) (ok : Ana.Ok2 X.g) (hp : Sl 1 intF As s w) :
   Calls Try.prog 14 #[.agg #[.slice X.At X.terms.length X.ct, .slice X.An X.nts.length X.cn, .int .i64 X.start, .slice X.Ar X.xs.length X.cr], .slice As s.length cs] w (Ret fun v w' => v = .bool (viaB X.g s) ∧ Ext [] w w') := by
 refine calls_fx (l := [.agg #[.slice X.At X.terms.length X.ct, .slice X.An X.nts.length X.cn, .int .i64 X.start, .slice X.Ar X.xs.length X.cr], .slice As s.length cs]) Try.func14 rfl Try.ntmps14 (Nat.le_of_ble_eq_true rfl) ((X.begin hM).old hp (dep_sl (by decide) hp)) ?_
 refine c_seq ?_
 refine c_reg ?_
 refine l_box (by decide) rfl _ rfl (fun b2 => ?_)
 refine l_q (by decide) (p_assign rfl).q ?_
 refine l_nil ?_
 refine c_seq ?_
 refine c_reg ?_
 refine l_q (by decide) (r_loadow Try.underlying25 rfl inf_25 rfl (by repeat constructor) (by rfl)).q ?_
 refine l_q (by decide) (p_move rfl).q ?_
 refine l_callo (τ := []) (fun z : RunR X s => .pointer (some ⟨z.1.p, 0, none⟩)) (fun z => z.1.own X) (by decide) call_23 rfl (fun w hs => run_ok X hX As cs s hsl w (GI.of hs (by repeat constructor) (by repeat constructor) (by repeat constructor) (by repeat constructor)) ok (hs.facts (Sl 1 intF As s) (by repeat constructor)).1) (fun zz => ?_)
 obtain ⟨z, hzo⟩ := zz
 have hz := hzo.last
 have hbl : z.bs.length ≤ 1000000 := by rw [hzo.bs, List.length_map, hzo.len]; omega
 refine l_q (by decide) (q_call call_27 rfl (fun w hs => last_ok X s z hz (z.own X ++ [iCells b2 25 [.slice X.At X.terms.length X.ct, .slice X.An X.nts.length X.cn, .int .i64 X.start, .slice X.Ar X.xs.length X.cr]]) own_left hbl _ w (hs.quiet))) ?_
 refine l_q (by decide) (p_len_sl Try.underlying46 rfl).q ?_
 refine l_q (by decide) (p_gtr (j := 0) rfl rfl rfl rfl).q ?_
 refine l_q (by decide) (p_assign rfl).q ?_
 refine l_nil ?_
 refine c_ret ?_
 refine c_ret1 rfl rfl (fun w hs => ?_)
 exact ⟨by rw [some_via ok hz], hs.ext⟩
end Go.Proofs.Ytncagpppmaehhaa
