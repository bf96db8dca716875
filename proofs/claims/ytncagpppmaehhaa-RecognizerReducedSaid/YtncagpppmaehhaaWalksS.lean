/- The walks of the recognizer, nineteenth part (close); conditions: lengths. -/
import Derived.Test.YtncagpppmaehhaaWalksR
namespace Go.Proofs.Ytncagpppmaehhaa
open Go Go.Fx Go.Proofs

open Go.Proofs.Rec
def ptrF (b : Nat) : List Value := [.pointer (some ⟨b, 0, none⟩)]
theorem SlIn.keep {α : Type} {w0 : World} {K : List Nat} {σ l : Fx.Own} {ρ : Fx.Facts} {e size c : Nat} {f : α → List Value} {A : Option Addr} {es : List α} (h : KeepF l ∈ ρ) (hi : iSl e size f A c es ∈ l) (hs : 0 < size) (hf : ∀ x, (f x).length = size) : SlIn w0 K σ ρ size f A es := fun _ hst => row_sl hf ((hst.facts _ h).1 _ hi) hs
/-- the set where an item began -/
def oES (j : Nat) (Ts : Nat → ES) (T : ES) (x : Im) : ES := if x.f = j then T else Ts x.f
theorem oES_b {j : Nat} {Ts : Nat → ES} {T T' : ES} {x : Im} (h : T.b = T'.b) : (oES j Ts T x).b = (oES j Ts T' x).b := by
  unfold oES
  split
  · exact h
  · rfl
theorem oES_es {j : Nat} {Ts : Nat → ES} {T : ES} {x : Im} : (oES j Ts T x).es = if x.f = j then T.es else (Ts x.f).es := by
  unfold oES
  split <;> rfl
theorem oES_ext {j : Nat} {Ts : Nat → ES} {T T' : ES} {x : Im} (h : ∃ e, T'.es = T.es ++ e) : ∃ e, (oES j Ts T' x).es = (oES j Ts T x).es ++ e := by
  rw [oES_es, oES_es]
  split
  · exact h
  · exact ⟨[], by simp⟩
theorem orig_at {w0 w : World} {K : List Nat} {σ l : Fx.Own} {ρ : Fx.Facts} {j : Nat} {Ts : Nat → ES} {T : ES} {x : Im} (hs : St w0 K w σ ρ) (hσ : ∀ y, y ∈ setO T → y ∈ σ) (hρ : KeepF l ∈ ρ) (hlo : ∀ f, f < j → ∀ y, y ∈ setO (Ts f) → y ∈ l) (hf : x.f ≤ j) :
    w.cell? ⟨(oES j Ts T x).b, 0 + 0, none⟩ = some (.slice (oES j Ts T x).A (oES j Ts T x).es.length (oES j Ts T x).c) ∧ Sl 3 imF (oES j Ts T x).A (oES j Ts T x).es w := by
  have key : ∀ U : ES, (∀ y, y ∈ setO U → y.holds w) → w.cell? ⟨U.b, 0 + 0, none⟩ = some (.slice U.A U.es.length U.c) ∧ Sl 3 imF U.A U.es w := fun U h =>
    ⟨(cells_cell (h (iCells U.b 59 [.slice U.A U.es.length U.c, .map U.m]) (List.mem_cons_self ..)) 0).trans rfl, row_sl len_imF (h (iSl 52 3 imF U.A U.c U.es) (List.mem_cons_of_mem _ (List.mem_cons_self ..))) (by decide)⟩
  unfold oES
  split
  · exact key T fun y hy => (hs.own y (hσ y hy)).1
  · exact key _ fun y hy => (hs.facts _ hρ).1 y (hlo _ (by omega) y hy)
/-- what close leaves -/
structure CloseP (X : GI) (s : List Int) (S : ES) (j : Nat) (Ts : Nat → ES) (T : ES) : Prop where
  b : T.b = S.b
  ok : T.ok
  set : IsSet X.g s j T.es
  sub : ∀ x, x ∈ S.es → x ∈ T.es
  done : ∀ x, x ∈ T.es → DoneAt X.g j (fun f => (Ts f).es) T.es x
abbrev CloseR (X : GI) (s : List Int) (S : ES) (j : Nat) (Ts : Nat → ES) := { T : ES // CloseP X s S j Ts T }
theorem done_more {g : Ana.Gr} {j : Nat} {sets : Nat → List Im} {es es2 : List Im} {i : Nat} (h : ∀ x, x ∈ es.take i → DoneAt g j sets es x) (e : es2 = es) : ∀ x, x ∈ es2.take i → DoneAt g j sets es2 x := by subst e; exact h
theorem take_ext {es e : List Im} {i : Nat} (h : i ≤ es.length) : (es ++ e).take i = es.take i := List.take_append_of_le_length h
theorem compP_take {g : Ana.Gr} {es : List Im} {k : Nat} {y : Im} {h : Int} {z : Im} (hy : es[k]? = some y) (hz : CompP g (es.take (k + 1)) h z) : CompP g (es.take k) h z ∨ (∃ q, g.rules[y.k]? = some q ∧ q.body[y.d]? = some (-1 - h) ∧ z = ⟨y.k, y.d + 1, y.f⟩) := by
  obtain ⟨u, h1, q, h2, h3, h4⟩ := hz
  rw [take_at hy] at h1
  rcases List.mem_append.1 h1 with h1 | h1
  · exact .inl ⟨u, h1, q, h2, h3, h4⟩
  · rw [List.mem_singleton.1 h1] at h2 h3 h4
    exact .inr ⟨q, h2, h3, h4⟩
theorem done_pred {X : GI} {j : Nat} {sets : Nat → List Im} {es : List Im} {x : Im} {rx : XR} {y : Int} (hrx : X.xs[x.k]? = some rx) (hy : rx.r.body[x.d]? = some y) (h : y < 0 → ∀ z, PredP X.g j (-1 - y) z → z ∈ es) : DoneAt X.g j sets es x := fun r hr => by
  rw [rule_at hrx] at hr
  injection hr with hr
  subst hr
  refine ⟨fun y2 hy2 h0 => ?_, fun hd => ?_⟩
  · rw [hy] at hy2
    injection hy2 with hy2
    subst hy2
    exact h h0
  · have := (List.getElem?_eq_some_iff.1 hy).1; omega
theorem done_comp {X : GI} {j : Nat} {sets : Nat → List Im} {es : List Im} {x : Im} {rx : XR} (hrx : X.xs[x.k]? = some rx) (hd : x.d = rx.r.body.length) (h : ∀ z, CompP X.g (if x.f = j then es else sets x.f) rx.r.head z → z ∈ es) : DoneAt X.g j sets es x := fun r hr => by
  rw [rule_at hrx] at hr
  injection hr with hr
  subst hr
  refine ⟨fun y2 hy2 _ => ?_, fun _ => h⟩
  have := (List.getElem?_eq_some_iff.1 hy2).1; omega
theorem inf_56 : InfoIs Try.prog 56 1 8 (.pointer none) := by unfold InfoIs; kernel_rfl
theorem call_34 : Callable Try.prog 34 := ⟨_, Try.func34, by kernel_rfl, rfl⟩
theorem close_ok (X : GI) (hX : X.small) (ok : Ana.Ok2 X.g) (p bo j cs : Nat) (Ar : Option Addr) (lo : Fx.Own) (s : List Int) (hsl : s.length ≤ 40) (hj : j ≤ 40) (bs : List Nat) (hbs : bs.length = j + 1) (Ts : Nat → ES) (S : ES) (hbj : bs[j]? = some S.b) (hTs : ∀ f, f < j → bs[f]? = some (Ts f).b ∧ (∀ y, y ∈ setO (Ts f) → y ∈ lo) ∧ IsSet X.g s f (Ts f).es) (hS : S.ok) (hset : IsSet X.g s j S.es) (w : World) (h : St w (keysOf (setO S)) w (setO S) (KeepF (iCells p 62 (pCells X bo Ar (j + 1) cs) :: iSl 56 1 ptrF Ar cs bs :: lo) :: prodT X bo :: [Bd X.xs, Sl 3 ruF X.Ar X.xs, Sl 1 strF X.An X.nts, Sl 1 strF X.At X.terms])) :
   Calls Try.prog 35 #[.pointer (some ⟨p, 0, none⟩)] w (Ret fun v w' => ∃ (T : CloseR X s S j Ts) (ρ' : Facts), v = .tuple #[] ∧ St w (keysOf (setO S)) w' (setO T.1) ρ') := by
 have hnl := ok.nl
 have htl := ok.tl
 have hxl : X.xs.length ≤ 20 := by have := ok.rl; rwa [show X.g.rules.length = X.xs.length from List.length_map ..] at this
 refine calls_fx (l := [.pointer (some ⟨p, 0, none⟩)]) Try.func35 rfl Try.ntmps35 (Nat.le_of_ble_eq_true rfl) h ?_
 refine c_seq ?_
 refine c_draw mixed (by decide +kernel) ?_
 refine q_q (by decide) (p_move rfl).q ?_
 refine q_q (by decide) (p_nilp rfl).q ?_
 refine q_q (by decide) (p_faddro (i := 2) 5 Try.underlying62 rfl inf_60 (by decide) rfl rfl).q ?_
 refine q_q (by decide) (r_loadq (q := KeepF (iCells p 62 (pCells X bo Ar (j + 1) cs) :: iSl 56 1 ptrF Ar cs bs :: lo)) Try.underlying60 rfl rfl (by repeat constructor) (fun w h => p_cell (h _ (List.mem_cons_self ..)) rfl)).q ?_
 refine q_q (by decide) (p_move rfl).q ?_
 refine q_q (by decide) (p_nilp rfl).q ?_
 refine q_q (by decide) (p_faddro (i := 2) 5 Try.underlying62 rfl inf_60 (by decide) rfl rfl).q ?_
 refine q_q (by decide) (r_loadq (q := KeepF (iCells p 62 (pCells X bo Ar (j + 1) cs) :: iSl 56 1 ptrF Ar cs bs :: lo)) Try.underlying60 rfl rfl (by repeat constructor) (fun w h => p_cell (h _ (List.mem_cons_self ..)) rfl)).q ?_
 refine q_q (by decide) (p_len_sl Try.underlying60 rfl).q ?_
 refine q_q (by decide) (p_sub (j := 1) rfl rfl rfl rfl (by omega) (by show _ ≤ (9223372036854775807 : Nat); omega)).q ?_
 refine q_q (by decide) (r_index (es := bs) (f := ptrF) (A := Ar) (j := j) Try.underlying60 inf_56 rfl rfl rfl (SlIn.keep (by repeat constructor) (List.mem_cons_of_mem _ (List.mem_cons_self ..)) (by decide) (fun _ => rfl)) (by rw [hbs]) (by rw [hbs]; omega)).q ?_
 refine q_q (by decide) (r_load1 (f := ptrF) (A := Ar) (es := bs) (j := j) Try.underlying56 rfl rfl (SlIn.keep (by repeat constructor) (List.mem_cons_of_mem _ (List.mem_cons_self ..)) (by decide) (fun _ => rfl)) hbj rfl).q ?_
 refine q_q (by decide) (p_assign rfl).q ?_
 refine q_nil ?_
 refine c_seq ?_
 refine c_reg ?_
 refine l_q (by decide) (p_assign rfl).q ?_
 refine l_nil ?_
 refine c_block ?_
 refine c_loop (S := Option Addr × Nat × Option Nat × List Im × Bool) (fun zs => (ES.mk S.b zs.1 zs.2.1 zs.2.2.1 zs.2.2.2.1).ok ∧ IsSet X.g s j zs.2.2.2.1 ∧ (∀ zz : Im, zz ∈ S.es → zz ∈ zs.2.2.2.1) ∧ (zs.2.2.2.2 = false → ∀ zz : Im, zz ∈ zs.2.2.2.1 → DoneAt X.g j (fun f => (Ts f).es) zs.2.2.2.1 zz)) (fun zs => 2 * (5740 - List.length zs.2.2.2.1) + zs.2.2.2.2.toNat) (fun zs => [(0, .pointer (some ⟨p, 0, none⟩)), (2, .pointer (some ⟨S.b, 0, none⟩)), (3, .bool zs.2.2.2.2)]) (fun zs => (setO (ES.mk S.b zs.1 zs.2.1 zs.2.2.1 zs.2.2.2.1))) (fun zs => (KeepF (iCells p 62 (pCells X bo Ar (j + 1) cs) :: iSl 56 1 ptrF Ar cs bs :: lo) :: prodT X bo :: [Bd X.xs, Sl 3 ruF X.Ar X.xs, Sl 1 strF X.An X.nts, Sl 1 strF X.At X.terms])) (S.A, S.c, S.m, S.es, true) ?_ ?_ ?_ ?_ ?_
 · show (ES.mk S.b (S.A) (S.c) (S.m) (S.es)).ok ∧ IsSet X.g s j (S.es) ∧ (∀ zz : Im, zz ∈ S.es → zz ∈ (S.es)) ∧ ((true) = false → ∀ zz : Im, zz ∈ (S.es) → DoneAt X.g j (fun f => (Ts f).es) (S.es) zz)
   exact ⟨hS, hset, fun _ h => h, fun h => by cases h⟩
 · exact ⟨rfl, rfl, rfl, trivial⟩
 · exact .refl _
 · exact fun _ h => h
 rintro ⟨A, c, m, es, ch⟩ hinv
 have hinv : (ES.mk S.b A c m es).ok ∧ IsSet X.g s j es ∧ (∀ zz : Im, zz ∈ S.es → zz ∈ es) ∧ (ch = false → ∀ zz : Im, zz ∈ es → DoneAt X.g j (fun f => (Ts f).es) es zz) := hinv
 obtain ⟨hI1, hI2, hI3, hI4⟩ := hinv
 show Cont _ _ _ _ [(0, .pointer (some ⟨p, 0, none⟩)), (2, .pointer (some ⟨S.b, 0, none⟩)), (3, .bool ch)] ((setO (ES.mk S.b A c m es))) (KeepF (iCells p 62 (pCells X bo Ar (j + 1) cs) :: iSl 56 1 ptrF Ar cs bs :: lo) :: prodT X bo :: [Bd X.xs, Sl 3 ruF X.Ar X.xs, Sl 1 strF X.An X.nts, Sl 1 strF X.At X.terms])
 refine c_seq ?_
 refine c_seq ?_
 refine c_reg ?_
 refine l_q (by decide) (p_move rfl).q ?_
 refine l_nil ?_
 refine c_cond rfl (fun h25 => ?_) (fun h25 => ?_)
 ·skip
  have hlen := hI2.len ok hsl
  refine c_skip ?_
  refine c_block ?_
  refine c_seq ?_
  refine c_reg ?_
  refine l_q (by decide) (p_move rfl).q ?_
  refine l_q (by decide) (p_nilp rfl).q ?_
  refine l_q (by decide) (p_faddro (i := 0) 0 Try.underlying59 rfl inf_46 (by decide) rfl rfl).q ?_
  refine l_q (by decide) (r_loado Try.underlying46 rfl rfl (by repeat constructor) (by rfl)).q ?_
  refine l_q (by decide) (p_len_sl Try.underlying46 rfl).q ?_
  refine l_q (by decide) (p_assign rfl).q ?_
  refine l_nil ?_
  refine c_seq ?_
  refine c_seq ?_
  refine c_reg ?_
  refine l_q (by decide) (p_assign (v := .int .i64 ((0 : Nat) : Int)) rfl).q ?_
  refine l_nil ?_
  refine c_block ?_
  refine c_loop (S := Nat × Option Addr × Nat × Option Nat × List Im) (fun zs => zs.1 ≤ List.length zs.2.2.2.2 ∧ (ES.mk S.b zs.2.1 zs.2.2.1 zs.2.2.2.1 zs.2.2.2.2).ok ∧ IsSet X.g s j zs.2.2.2.2 ∧ (∃ e : List Im, zs.2.2.2.2 = es ++ e) ∧ (List.length zs.2.2.2.2 ≤ es.length → ∀ zz : Im, zz ∈ List.take zs.1 zs.2.2.2.2 → DoneAt X.g j (fun f => (Ts f).es) zs.2.2.2.2 zz)) (fun zs => 5740 - zs.1) (fun zs => [(0, .pointer (some ⟨p, 0, none⟩)), (2, .pointer (some ⟨S.b, 0, none⟩)), (4, .int .i64 (es.length : Int)), (5, .int .i64 (zs.1 : Int))]) (fun zs => (setO (ES.mk S.b zs.2.1 zs.2.2.1 zs.2.2.2.1 zs.2.2.2.2))) (fun zs => (KeepF (iCells p 62 (pCells X bo Ar (j + 1) cs) :: iSl 56 1 ptrF Ar cs bs :: lo) :: prodT X bo :: [Bd X.xs, Sl 3 ruF X.Ar X.xs, Sl 1 strF X.An X.nts, Sl 1 strF X.At X.terms])) (0, A, c, m, es) ?_ ?_ ?_ ?_ ?_
  · show (0) ≤ List.length (es) ∧ (ES.mk S.b (A) (c) (m) (es)).ok ∧ IsSet X.g s j (es) ∧ (∃ e : List Im, (es) = es ++ e) ∧ (List.length (es) ≤ es.length → ∀ zz : Im, zz ∈ List.take (0) (es) → DoneAt X.g j (fun f => (Ts f).es) (es) zz)
    exact ⟨Nat.zero_le _, hI1, hI2, ⟨[], by simp⟩, fun _ zz h => absurd h (by simp)⟩
  · exact ⟨rfl, rfl, rfl, rfl, trivial⟩
  · exact .refl _
  · exact fun _ h => h
  rintro ⟨i, A2, c2, m2, es2⟩ hinv
  have hinv : i ≤ List.length es2 ∧ (ES.mk S.b A2 c2 m2 es2).ok ∧ IsSet X.g s j es2 ∧ (∃ e : List Im, es2 = es ++ e) ∧ (List.length es2 ≤ es.length → ∀ zz : Im, zz ∈ List.take i es2 → DoneAt X.g j (fun f => (Ts f).es) es2 zz) := hinv
  obtain ⟨hJ1, hJ2, hJ3, hJ4, hJ5⟩ := hinv
  show Cont _ _ _ _ [(0, .pointer (some ⟨p, 0, none⟩)), (2, .pointer (some ⟨S.b, 0, none⟩)), (4, .int .i64 (es.length : Int)), (5, .int .i64 (i : Int))] ((setO (ES.mk S.b A2 c2 m2 es2))) (KeepF (iCells p 62 (pCells X bo Ar (j + 1) cs) :: iSl 56 1 ptrF Ar cs bs :: lo) :: prodT X bo :: [Bd X.xs, Sl 3 ruF X.Ar X.xs, Sl 1 strF X.An X.nts, Sl 1 strF X.At X.terms])
  refine c_seq ?_
  refine c_seq ?_
  have hlen2 := hJ3.len ok hsl
  refine c_reg ?_
  refine l_q (by decide) (p_move rfl).q ?_
  refine l_q (by decide) (p_move rfl).q ?_
  refine l_q (by decide) (p_nilp rfl).q ?_
  refine l_q (by decide) (p_faddro (i := 0) 0 Try.underlying59 rfl inf_46 (by decide) rfl rfl).q ?_
  refine l_q (by decide) (r_loado Try.underlying46 rfl rfl (by repeat constructor) (by rfl)).q ?_
  refine l_q (by decide) (p_len_sl Try.underlying46 rfl).q ?_
  refine l_q (by decide) (p_lss rfl rfl rfl rfl).q ?_
  refine l_nil ?_
  refine c_dec rfl (fun h37 => ?_) (fun h37 => ?_)
  ·skip
   obtain ⟨x, hx⟩ := at_some (l := es2) (n := i) (by omega)
   have hit := hJ3.2 x (List.mem_of_getElem? hx)
   obtain ⟨r0, hgood⟩ := hit.good ok.h0
   obtain ⟨rx, hrx, hr0⟩ := at_rule hgood.rule
   subst hr0
   have hxd := hgood.dot
   have hxf := hgood.pos
   have hxk : x.k < X.xs.length := (List.getElem?_eq_some_iff.1 hrx).1
   have hblx := ok.bl _ (rule_mem hrx)
   have hh0 := ok.h0 _ (rule_mem hrx)
   have hh1 := ok.h1 _ (rule_mem hrx)
   refine c_skip ?_
   refine c_seq ?_
   refine c_block ?_
   refine c_seq ?_
   refine c_reg ?_
   refine l_q (by decide) (p_move rfl).q ?_
   refine l_q (by decide) (p_nilp rfl).q ?_
   refine l_q (by decide) (p_faddro (i := 0) 0 Try.underlying59 rfl inf_46 (by decide) rfl rfl).q ?_
   refine l_q (by decide) (r_loado Try.underlying46 rfl rfl (by repeat constructor) (by rfl)).q ?_
   refine l_q (by decide) (p_move rfl).q ?_
   refine l_q (by decide) (r_index Try.underlying46 inf_52 rfl rfl rfl (by exact .own (by repeat constructor) (by decide) (fun _ => rfl)) rfl (by omega)).q ?_
   refine l_q (by decide) (r_loada Try.underlying52 rfl inf_52 rfl (by exact .own (by repeat constructor) (by decide) (fun _ => rfl)) (by assumption)).q ?_
   refine l_alloc (by decide) inf_52 _ rfl (fun b6 => ?_)
   (refine l_storew inf_52 rfl rfl rfl rfl rfl ?_)
   refine l_nil ?_
   refine c_seq ?_
   refine m_draw [] mixed ?_
   refine m_takep 0 rfl (by kernel_rfl) (by decide) (p_move rfl) ?_
   refine m_takep 1 rfl (by kernel_rfl) (by decide) (p_nilp rfl) ?_
   refine m_takep 2 rfl (by kernel_rfl) (by decide) (p_faddro (i := 0) 0 Try.underlying62 rfl inf_25 (by decide) rfl rfl) ?_
   refine m_takep 3 rfl (by kernel_rfl) (by decide) (p_faddro (i := 3) 3 Try.underlying25 rfl inf_23 (by decide) rfl rfl) ?_
   refine m_take 4 rfl (by kernel_rfl) (by decide) (by exact (List.Perm.refl _ : List.Perm _ ([] ++ _))) (by exact fun _ h => h) (r_loadq (q := KeepF (iCells p 62 (pCells X bo Ar (j + 1) cs) :: iSl 56 1 ptrF Ar cs bs :: lo)) Try.underlying23 rfl rfl (by repeat constructor) (fun w h => p_cell (h _ (List.mem_cons_self ..)) rfl)).r ?_
   refine m_takep 5 rfl (by kernel_rfl) (by decide) (p_faddro (i := 0) 0 Try.underlying52 rfl inf_3 (by decide) rfl rfl) ?_
   refine m_take 6 rfl (by kernel_rfl) (by decide) (by exact (List.Perm.refl _ : List.Perm _ ([] ++ _))) (by exact fun _ h => h) (r_loado Try.underlying3 rfl rfl (by repeat constructor) (by rfl)).r ?_
   refine m_take 7 rfl (by kernel_rfl) (by decide) (by exact (List.Perm.refl _ : List.Perm _ ([] ++ _))) (by exact fun _ h => h) (r_index Try.underlying23 inf_49 rfl rfl rfl (by exact .fact (by repeat constructor)) rfl (by omega)).r ?_
   refine m_take 8 rfl (by kernel_rfl) (by decide) (by exact (List.Perm.refl _ : List.Perm _ ([] ++ _))) (by exact fun _ h => h) (r_loada Try.underlying49 rfl inf_49 rfl (by exact .fact (by repeat constructor)) (by assumption)).r ?_
   refine m_run 9 rfl (by kernel_rfl) ?_
   refine l_alloc (by decide) inf_49 _ rfl (fun b7 => ?_)
   refine l_nil ?_
   refine m_next _ (by exact (List.Perm.refl _ : List.Perm _ ([_] ++ _))) (by exact fun _ h => h) ?_
   refine m_run 10 rfl (by kernel_rfl) ?_
   (refine l_storew inf_49 rfl rfl rfl rfl rfl ?_)
   refine l_nil ?_
   refine m_next _ (by exact (List.Perm.refl _ : List.Perm _ ([_] ++ _))) (by exact fun _ h => h) ?_
   refine m_done (by kernel_rfl) ?_
   refine c_seq ?_
   refine c_seq ?_
   refine c_reg ?_
   refine l_q (by decide) (p_faddro (i := 1) 1 Try.underlying52 rfl inf_3 (by decide) rfl rfl).q ?_
   refine l_q (by decide) (r_loado Try.underlying3 rfl rfl (by repeat constructor) (by rfl)).q ?_
   refine l_q (by decide) (p_faddro (i := 1) 1 Try.underlying49 rfl inf_26 (by decide) rfl rfl).q ?_
   refine l_q (by decide) (r_loado Try.underlying26 rfl rfl (by repeat constructor) (by rfl)).q ?_
   refine l_q (by decide) (p_len_sl Try.underlying26 rfl).q ?_
   refine l_q (by decide) (p_lss rfl rfl rfl rfl).q ?_
   refine l_nil ?_
   refine c_dec rfl (fun h61 => ?_) (fun h61 => ?_)
   ·skip
    obtain ⟨y, hy⟩ := at_some (l := rx.r.body) (n := x.d) (by omega)
    have hyb := ok.b0 _ (rule_mem hrx) y (List.mem_of_getElem? hy)
    refine c_seq ?_
    refine c_seq ?_
    refine c_reg ?_
    refine l_q (by decide) (p_faddro (i := 1) 1 Try.underlying49 rfl inf_26 (by decide) rfl rfl).q ?_
    refine l_q (by decide) (r_loado Try.underlying26 rfl rfl (by repeat constructor) (by rfl)).q ?_
    refine l_q (by decide) (p_faddro (i := 1) 1 Try.underlying52 rfl inf_3 (by decide) rfl rfl).q ?_
    refine l_q (by decide) (r_loado Try.underlying3 rfl rfl (by repeat constructor) (by rfl)).q ?_
    refine l_q (by decide) (r_index Try.underlying26 inf_3 rfl rfl rfl (by exact SlIn.body (by repeat constructor) (by assumption)) rfl (by omega)).q ?_
    refine l_q (by decide) (r_load1 Try.underlying3 rfl rfl (by exact SlIn.body (by repeat constructor) (by assumption)) (by assumption) (by rfl)).q ?_
    refine l_q (by decide) (p_assign rfl).q ?_
    refine l_nil ?_
    refine c_seq ?_
    refine c_reg ?_
    refine l_q (by decide) (p_move rfl).q ?_
    refine l_q (by decide) (p_lssi rfl rfl).q ?_
    refine l_nil ?_
    refine c_dec rfl (fun h69 => ?_) (fun h69 => ?_)
    ·skip
     refine c_reg ?_
     refine l_q (by decide) (p_move rfl).q ?_
     refine l_q (by decide) (p_move rfl).q ?_
     refine l_q (by decide) (p_move rfl).q ?_
     refine l_q (by decide) (p_subi rfl rfl (by show (-9223372036854775808 : Int) ≤ _; omega) (by show _ ≤ ((9223372036854775807 : Nat) : Int); omega)).q ?_
     refine l_perm (List.perm_append_comm (l₁ := [_, _])) ?_
     refine l_callo (τ := setO (ES.mk S.b A2 c2 m2 es2)) (fun _ : PredR X (ES.mk S.b A2 c2 m2 es2) j (-1 - y) => .tuple #[]) (fun z => setO z.1) (by decide) call_34 rfl (fun w hs => predict_ok X hX ok p bo j cs Ar (iSl 56 1 ptrF Ar cs bs :: lo) (by omega) (ES.mk S.b A2 c2 m2 es2) hJ2 (by show es2.length ≤ _; omega) (-1 - y) w hs) (fun z => ?_)
     obtain ⟨⟨zb, A5, c5, m5, es5⟩, hzb, hz1, hz2, hz3⟩ := z
     obtain rfl : zb = S.b := hzb
     refine l_nil ?_
     refine c_exit ?_
     refine c_here ?_
     refine c_reg ?_
     refine l_q (by decide) (p_move rfl).q ?_
     refine l_q (by decide) (p_add (j := 1) rfl rfl rfl rfl (by show _ ≤ (9223372036854775807 : Nat); omega)).q ?_
     refine l_q (by decide) (p_assign rfl).q ?_
     refine l_nil ?_
     refine c_perm (List.perm_append_comm (l₂ := [_, _])) ?_
     refine c_drop ?_
     refine c_drop ?_
     refine c_join ((i + 1), (A5), (c5), (m5), (es5)) ?_ ?_ ?_ ?_
     ·show ((i + 1) ≤ List.length (es5) ∧ (ES.mk S.b (A5) (c5) (m5) (es5)).ok ∧ IsSet X.g s j (es5) ∧ (∃ e : List Im, (es5) = es ++ e) ∧ (List.length (es5) ≤ es.length → ∀ zz : Im, zz ∈ List.take (i + 1) (es5) → DoneAt X.g j (fun f => (Ts f).es) (es5) zz)) ∧ 5740 - (i + 1) < 5740 - i
      have hz3 : es5.length ≤ es2.length + 20 := hz3
      have hz2 : Adds (PredP X.g j (-1 - y)) es2 es5 := hz2
      have h37 : i < es2.length := h37
      obtain ⟨e5, he5⟩ := hz2.ext
      obtain ⟨e4, he4⟩ := hJ4
      have hle := hz2.len
      have hle4 : es.length ≤ es2.length := by rw [he4]; simp
      have hset5 := hz2.isSet hJ3 (fun z hz => pred_it hit (rule_at hrx) hy h69 hz)
      refine ⟨⟨by omega, hz1, hset5, ⟨e4 ++ e5, by rw [he5, he4, List.append_assoc]⟩, fun hle2 => ?_⟩, by omega⟩
      obtain rfl : es5 = es2 := hz2.same (by omega)
      intro zz hz
      rw [take_at hx] at hz
      rcases List.mem_append.1 hz with h5 | h5
      · exact hJ5 (by omega) zz h5
      · rw [List.mem_singleton.1 h5]; exact done_pred hrx hy (fun _ z hz => hz2.all z hz)
     · exact ⟨rfl, rfl, rfl, rfl, trivial⟩
     ·show List.Perm _ ((setO (ES.mk S.b (A5) (c5) (m5) (es5))))
      exact .refl _
     · exact fun _ h => h
    ·skip
     refine c_skip ?_
     refine c_exit ?_
     refine c_here ?_
     refine c_reg ?_
     refine l_q (by decide) (p_move rfl).q ?_
     refine l_q (by decide) (p_add (j := 1) rfl rfl rfl rfl (by show _ ≤ (9223372036854775807 : Nat); omega)).q ?_
     refine l_q (by decide) (p_assign rfl).q ?_
     refine l_nil ?_
     refine c_drop ?_
     refine c_drop ?_
     refine c_join ((i + 1), (A2), (c2), (m2), (es2)) ?_ ?_ ?_ ?_
     ·show ((i + 1) ≤ List.length (es2) ∧ (ES.mk S.b (A2) (c2) (m2) (es2)).ok ∧ IsSet X.g s j (es2) ∧ (∃ e : List Im, (es2) = es ++ e) ∧ (List.length (es2) ≤ es.length → ∀ zz : Im, zz ∈ List.take (i + 1) (es2) → DoneAt X.g j (fun f => (Ts f).es) (es2) zz)) ∧ 5740 - (i + 1) < 5740 - i
      have h37 : i < es2.length := h37
      refine ⟨⟨by omega, hJ2, hJ3, hJ4, fun hle2 zz hz => ?_⟩, by omega⟩
      rw [take_at hx] at hz
      rcases List.mem_append.1 hz with h5 | h5
      · exact hJ5 hle2 zz h5
      · rw [List.mem_singleton.1 h5]; exact done_pred hrx hy (fun h => absurd h h69)
     · exact ⟨rfl, rfl, rfl, rfl, trivial⟩
     ·show List.Perm _ ((setO (ES.mk S.b (A2) (c2) (m2) (es2))))
      exact .refl _
     · exact fun _ h => h
   ·skip
    refine c_skip ?_
    refine c_seq ?_
    have hob : bs[x.f]? = some (oES j Ts S x).b := by
      unfold oES
      split
      · rename_i e; rw [e]; exact hbj
      · exact (hTs x.f (by omega)).1
    have hlo2 : ∀ f, f < j → ∀ y, y ∈ setO (Ts f) → y ∈ (iCells p 62 (pCells X bo Ar (j + 1) cs) :: iSl 56 1 ptrF Ar cs bs :: lo) := fun f hf y hy => List.mem_cons_of_mem _ (List.mem_cons_of_mem _ ((hTs f hf).2.1 y hy))
    refine c_draw mixed (by decide +kernel) ?_
    refine q_q (by decide) (p_move rfl).q ?_
    refine q_q (by decide) (p_nilp rfl).q ?_
    refine q_q (by decide) (p_faddro (i := 2) 5 Try.underlying62 rfl inf_60 (by decide) rfl rfl).q ?_
    refine q_q (by decide) (r_loadq (q := KeepF (iCells p 62 (pCells X bo Ar (j + 1) cs) :: iSl 56 1 ptrF Ar cs bs :: lo)) Try.underlying60 rfl rfl (by repeat constructor) (fun w h => p_cell (h _ (List.mem_cons_self ..)) rfl)).q ?_
    refine q_q (by decide) (p_faddro (i := 2) 2 Try.underlying52 rfl inf_3 (by decide) rfl rfl).q ?_
    refine q_q (by decide) (r_loado Try.underlying3 rfl rfl (by repeat constructor) (by rfl)).q ?_
    refine q_q (by decide) (r_index (es := bs) (f := ptrF) (A := Ar) (j := x.f) Try.underlying60 inf_56 rfl rfl rfl (SlIn.keep (by repeat constructor) (List.mem_cons_of_mem _ (List.mem_cons_self ..)) (by decide) (fun _ => rfl)) (by rw [hbs]) (by rw [hbs]; omega)).q ?_
    refine q_q (by decide) (r_load1 (f := ptrF) (A := Ar) (es := bs) (j := x.f) Try.underlying56 rfl rfl (SlIn.keep (by repeat constructor) (List.mem_cons_of_mem _ (List.mem_cons_self ..)) (by decide) (fun _ => rfl)) hob rfl).q ?_
    refine q_q (by decide) (p_assign rfl).q ?_
    refine q_nil ?_
    refine c_seq ?_
    refine c_reg ?_
    refine l_q (by decide) (p_assign (v := .int .i64 ((0 : Nat) : Int)) rfl).q ?_
    refine l_nil ?_
    refine c_block ?_
    refine c_loop (S := Nat × Option Addr × Nat × Option Nat × List Im) (fun zs => zs.1 ≤ (oES j Ts (ES.mk S.b zs.2.1 zs.2.2.1 zs.2.2.2.1 zs.2.2.2.2) x).es.length ∧ (ES.mk S.b zs.2.1 zs.2.2.1 zs.2.2.2.1 zs.2.2.2.2).ok ∧ IsSet X.g s j zs.2.2.2.2 ∧ (∃ e : List Im, zs.2.2.2.2 = es2 ++ e) ∧ (∀ zz : Im, CompP X.g (List.take zs.1 (oES j Ts (ES.mk S.b zs.2.1 zs.2.2.1 zs.2.2.2.1 zs.2.2.2.2) x).es) rx.r.head zz → zz ∈ zs.2.2.2.2)) (fun zs => 5740 - zs.1) (fun zs => [(0, .pointer (some ⟨p, 0, none⟩)), (2, .pointer (some ⟨S.b, 0, none⟩)), (4, .int .i64 (es.length : Int)), (5, .int .i64 (i : Int)), (7, .pointer (some ⟨b7, 0, none⟩)), (9, .pointer (some ⟨(oES j Ts S x).b, 0, none⟩)), (10, .int .i64 (zs.1 : Int))]) (fun zs => (iCells b7 49 (ruF rx) :: iCells b6 52 (imF x) :: setO (ES.mk S.b zs.2.1 zs.2.2.1 zs.2.2.2.1 zs.2.2.2.2))) (fun zs => (KeepF (iCells p 62 (pCells X bo Ar (j + 1) cs) :: iSl 56 1 ptrF Ar cs bs :: lo) :: prodT X bo :: [Bd X.xs, Sl 3 ruF X.Ar X.xs, Sl 1 strF X.An X.nts, Sl 1 strF X.At X.terms])) (0, A2, c2, m2, es2) ?_ ?_ ?_ ?_ ?_
    · show (0) ≤ (oES j Ts (ES.mk S.b (A2) (c2) (m2) (es2)) x).es.length ∧ (ES.mk S.b (A2) (c2) (m2) (es2)).ok ∧ IsSet X.g s j (es2) ∧ (∃ e : List Im, (es2) = es2 ++ e) ∧ (∀ zz : Im, CompP X.g (List.take (0) (oES j Ts (ES.mk S.b (A2) (c2) (m2) (es2)) x).es) rx.r.head zz → zz ∈ (es2))
      exact ⟨Nat.zero_le _, hJ2, hJ3, ⟨[], by simp⟩, fun zz h => by obtain ⟨y, h1, _⟩ := h; simp at h1⟩
    · exact ⟨rfl, rfl, rfl, rfl, rfl, rfl, rfl, trivial⟩
    · exact .refl _
    · exact fun _ h => h
    rintro ⟨k, A3, c3, m3, es3⟩ hinv
    have hinv : k ≤ (oES j Ts (ES.mk S.b A3 c3 m3 es3) x).es.length ∧ (ES.mk S.b A3 c3 m3 es3).ok ∧ IsSet X.g s j es3 ∧ (∃ e : List Im, es3 = es2 ++ e) ∧ (∀ zz : Im, CompP X.g (List.take k (oES j Ts (ES.mk S.b A3 c3 m3 es3) x).es) rx.r.head zz → zz ∈ es3) := hinv
    obtain ⟨hK1, hK2, hK3, hK4, hK5⟩ := hinv
    have hlen3 := hK3.len ok hsl
    have hol : (oES j Ts (ES.mk S.b A3 c3 m3 es3) x).es.length ≤ 5740 := by
      rw [oES_es]
      split
      · exact hlen3
      · exact ((hTs x.f (by omega)).2.2).len ok hsl
    have hobe : (oES j Ts S x).b = (oES j Ts (ES.mk S.b A3 c3 m3 es3) x).b := oES_b rfl
    show Cont _ _ _ _ [(0, .pointer (some ⟨p, 0, none⟩)), (2, .pointer (some ⟨S.b, 0, none⟩)), (4, .int .i64 (es.length : Int)), (5, .int .i64 (i : Int)), (7, .pointer (some ⟨b7, 0, none⟩)), (9, .pointer (some ⟨(oES j Ts S x).b, 0, none⟩)), (10, .int .i64 (k : Int))] ((iCells b7 49 (ruF rx) :: iCells b6 52 (imF x) :: setO (ES.mk S.b A3 c3 m3 es3))) (KeepF (iCells p 62 (pCells X bo Ar (j + 1) cs) :: iSl 56 1 ptrF Ar cs bs :: lo) :: prodT X bo :: [Bd X.xs, Sl 3 ruF X.Ar X.xs, Sl 1 strF X.An X.nts, Sl 1 strF X.At X.terms])
    refine c_seq ?_
    refine c_seq ?_
    refine c_reg ?_
    refine l_q (by decide) (p_move rfl).q ?_
    refine l_q (by decide) (p_move rfl).q ?_
    refine l_q (by decide) (p_nilp rfl).q ?_
    refine l_q (by decide) (p_faddro (i := 0) 0 Try.underlying59 rfl inf_46 (by decide) rfl rfl).q ?_
    refine l_q (by decide) (r_loadh Try.underlying46 rfl rfl (fun w hs => by rw [hobe]; exact (orig_at (j := j) (Ts := Ts) (T := (ES.mk S.b A3 c3 m3 es3)) (x := x) hs (fun y hy => List.mem_cons_of_mem _ (List.mem_cons_of_mem _ (hy))) (by repeat constructor) hlo2 hxf).1)).q ?_
    refine l_q (by decide) (p_len_sl Try.underlying46 rfl).q ?_
    refine l_q (by decide) (p_lss rfl rfl rfl rfl).q ?_
    refine l_nil ?_
    refine c_dec rfl (fun h89 => ?_) (fun h89 => ?_)
    ·skip
     have hk89 : k < (oES j Ts (ES.mk S.b A3 c3 m3 es3) x).es.length := by simpa using h89
     obtain ⟨y, hy⟩ := at_some (l := (oES j Ts (ES.mk S.b A3 c3 m3 es3) x).es) (n := k) hk89
     have hyit : It X.g s x.f y := by
       have hm := List.mem_of_getElem? hy
       rw [oES_es] at hm
       by_cases e : x.f = j
       · rw [if_pos e] at hm; rw [e]; exact hK3.2 y hm
       · rw [if_neg e] at hm; exact (hTs x.f (by omega)).2.2.2 y hm
     obtain ⟨r1, hgy⟩ := hyit.good ok.h0
     obtain ⟨ry, hry, hr1⟩ := at_rule hgy.rule
     subst hr1
     have hyk : y.k < X.xs.length := (List.getElem?_eq_some_iff.1 hry).1
     have hbly := ok.bl _ (rule_mem hry)
     have hyd := hgy.dot
     have hyf := hgy.pos
     refine c_skip ?_
     refine c_seq ?_
     refine c_block ?_
     refine c_seq ?_
     refine c_reg ?_
     refine l_q (by decide) (p_move rfl).q ?_
     refine l_q (by decide) (p_nilp rfl).q ?_
     refine l_q (by decide) (p_faddro (i := 0) 0 Try.underlying59 rfl inf_46 (by decide) rfl rfl).q ?_
     refine l_q (by decide) (r_loadh Try.underlying46 rfl rfl (fun w hs => by rw [hobe]; exact (orig_at (j := j) (Ts := Ts) (T := (ES.mk S.b A3 c3 m3 es3)) (x := x) hs (fun y hy => List.mem_cons_of_mem _ (List.mem_cons_of_mem _ (hy))) (by repeat constructor) hlo2 hxf).1)).q ?_
     refine l_q (by decide) (p_move rfl).q ?_
     refine l_q (by decide) (r_index (es := (oES j Ts (ES.mk S.b A3 c3 m3 es3) x).es) (f := imF) (j := k) Try.underlying46 inf_52 rfl rfl rfl (fun w hs => (orig_at (j := j) (Ts := Ts) (T := (ES.mk S.b A3 c3 m3 es3)) (x := x) hs (fun y hy => List.mem_cons_of_mem _ (List.mem_cons_of_mem _ (hy))) (by repeat constructor) hlo2 hxf).2) rfl hk89).q ?_
     refine l_q (by decide) (r_loada (es := (oES j Ts (ES.mk S.b A3 c3 m3 es3) x).es) (f := imF) (j := k) Try.underlying52 rfl inf_52 rfl (fun w hs => (orig_at (j := j) (Ts := Ts) (T := (ES.mk S.b A3 c3 m3 es3)) (x := x) hs (fun y hy => List.mem_cons_of_mem _ (List.mem_cons_of_mem _ (hy))) (by repeat constructor) hlo2 hxf).2) hy).q ?_
     refine l_alloc (by decide) inf_52 _ rfl (fun b11 => ?_)
     (refine l_storew inf_52 rfl rfl rfl rfl rfl ?_)
     refine l_nil ?_
     refine c_seq ?_
     refine c_draw mixed (by decide +kernel) ?_
     refine q_q (by decide) (p_move rfl).q ?_
     refine q_q (by decide) (p_nilp rfl).q ?_
     refine q_q (by decide) (p_faddro (i := 0) 0 Try.underlying62 rfl inf_25 (by decide) rfl rfl).q ?_
     refine q_q (by decide) (p_faddro (i := 3) 3 Try.underlying25 rfl inf_23 (by decide) rfl rfl).q ?_
     refine q_q (by decide) (r_loadq (q := KeepF (iCells p 62 (pCells X bo Ar (j + 1) cs) :: iSl 56 1 ptrF Ar cs bs :: lo)) Try.underlying23 rfl rfl (by repeat constructor) (fun w h => p_cell (h _ (List.mem_cons_self ..)) rfl)).q ?_
     refine q_q (by decide) (p_faddro (i := 0) 0 Try.underlying52 rfl inf_3 (by decide) rfl rfl).q ?_
     refine q_q (by decide) (r_loado Try.underlying3 rfl rfl (by repeat constructor) (by rfl)).q ?_
     refine q_q (by decide) (r_index Try.underlying23 inf_49 rfl rfl rfl (by exact .fact (by repeat constructor)) rfl (by omega)).q ?_
     refine q_q (by decide) (p_faddr (i := 1) 1 Try.underlying49 rfl inf_26 (by decide) rfl rfl).q ?_
     refine q_q (by decide) (r_loadf Try.underlying26 rfl rfl (by exact .fact (by repeat constructor)) (by assumption) (by rfl)).q ?_
     refine q_q (by decide) (p_assign rfl).q ?_
     refine q_nil ?_
     refine c_seq ?_
     refine c_draw mixed (by decide +kernel) ?_
     refine q_q (by decide) (p_faddro (i := 1) 1 Try.underlying52 rfl inf_3 (by decide) rfl rfl).q ?_
     refine q_q (by decide) (r_loado Try.underlying3 rfl rfl (by repeat constructor) (by rfl)).q ?_
     refine q_q (by decide) (p_move rfl).q ?_
     refine q_q (by decide) (p_len_sl Try.underlying26 rfl).q ?_
     refine q_q (by decide) (p_lss rfl rfl rfl rfl).q ?_
     refine q_q (by decide) (p_move rfl).q ?_
     refine q_splitd (t := 114) rfl (fun h114 => ?_) (fun h114 => ?_)
     ·skip
      obtain ⟨u, hu⟩ := at_some (l := ry.r.body) (n := y.d) (by omega)
      refine q_g (j := 5) rfl rfl (by decide) (p_move rfl).q ?_
      refine q_g (j := 5) rfl rfl (by decide) (p_faddro (i := 1) 1 Try.underlying52 rfl inf_3 (by decide) rfl rfl).q ?_
      refine q_g (j := 5) rfl rfl (by decide) (r_loado Try.underlying3 rfl rfl (by repeat constructor) (by rfl)).q ?_
      refine q_g (j := 5) rfl rfl (by decide) (r_index Try.underlying26 inf_3 rfl rfl rfl (by exact SlIn.body (by repeat constructor) (by assumption)) rfl (by omega)).q ?_
      refine q_g (j := 5) rfl rfl (by decide) (r_load1 Try.underlying3 rfl rfl (by exact SlIn.body (by repeat constructor) (by assumption)) (by assumption) (by rfl)).q ?_
      refine q_g (j := 5) rfl rfl (by decide) (p_faddro (i := 0) 0 Try.underlying49 rfl inf_3 (by decide) rfl rfl).q ?_
      refine q_g (j := 5) rfl rfl (by decide) (r_loado Try.underlying3 rfl rfl (by repeat constructor) (by rfl)).q ?_
      refine q_g (j := 5) rfl rfl (by decide) (p_subi rfl rfl (by show (-9223372036854775808 : Int) ≤ _; omega) (by show _ ≤ ((9223372036854775807 : Nat) : Int); omega)).q ?_
      refine q_g (j := 5) rfl rfl (by decide) (p_eqli rfl rfl).q ?_
      refine q_q (by decide) (p_pick rfl rfl).q ?_
      refine q_nil ?_
      refine c_dec rfl (fun h124 => ?_) (fun h124 => ?_)
      ·skip
       refine c_reg ?_
       refine l_q (by decide) (p_move rfl).q ?_
       refine l_q (by decide) (p_faddro (i := 0) 0 Try.underlying52 rfl inf_3 (by decide) rfl rfl).q ?_
       refine l_q (by decide) (r_loado Try.underlying3 rfl rfl (by repeat constructor) (by rfl)).q ?_
       refine l_q (by decide) (p_faddro (i := 1) 1 Try.underlying52 rfl inf_3 (by decide) rfl rfl).q ?_
       refine l_q (by decide) (r_loado Try.underlying3 rfl rfl (by repeat constructor) (by rfl)).q ?_
       refine l_q (by decide) (p_add (j := 1) rfl rfl rfl rfl (by show _ ≤ (9223372036854775807 : Nat); omega)).q ?_
       refine l_q (by decide) (p_faddro (i := 2) 2 Try.underlying52 rfl inf_3 (by decide) rfl rfl).q ?_
       refine l_q (by decide) (r_loado Try.underlying3 rfl rfl (by repeat constructor) (by rfl)).q ?_
       refine l_q (by decide) (((p_build (cells := #[_, _, _]) inf_52 pl_52 rfl rfl)).to (u := imK ⟨y.k, y.d + 1, y.f⟩) (rfl)).q ?_
       refine l_perm (List.perm_append_comm (l₁ := [_, _, _])) ?_
       refine l_callo (τ := setO (ES.mk S.b A3 c3 m3 es3)) (fun _ : Option Addr × Nat × Nat => .tuple #[]) (fun z => setO (ES.add (ES.mk S.b A3 c3 m3 es3) ⟨y.k, y.d + 1, y.f⟩ z)) (by decide) call_44 rfl (fun w hs => add_ok (ES.mk S.b A3 c3 m3 es3) hK2 ⟨y.k, y.d + 1, y.f⟩ (by show es3.length ≤ _; omega) _ w hs) (fun z => ?_)
       obtain ⟨A4, c4, m4⟩ := z
       refine l_nil ?_
       refine c_reg ?_
       refine l_q (by decide) (p_move rfl).q ?_
       refine l_q (by decide) (p_add (j := 1) rfl rfl rfl rfl (by show _ ≤ (9223372036854775807 : Nat); omega)).q ?_
       refine l_q (by decide) (p_assign rfl).q ?_
       refine l_nil ?_
       refine c_perm (List.perm_append_comm (l₂ := [_, _, _])) ?_
       refine c_drop ?_
       refine c_join ((k + 1), (A4), (c4), (some m4), (ins es3 ⟨y.k, y.d + 1, y.f⟩)) ?_ ?_ ?_ ?_
       ·show ((k + 1) ≤ (oES j Ts (ES.mk S.b (A4) (c4) (some m4) (ins es3 ⟨y.k, y.d + 1, y.f⟩)) x).es.length ∧ (ES.mk S.b (A4) (c4) (some m4) (ins es3 ⟨y.k, y.d + 1, y.f⟩)).ok ∧ IsSet X.g s j (ins es3 ⟨y.k, y.d + 1, y.f⟩) ∧ (∃ e : List Im, (ins es3 ⟨y.k, y.d + 1, y.f⟩) = es2 ++ e) ∧ (∀ zz : Im, CompP X.g (List.take (k + 1) (oES j Ts (ES.mk S.b (A4) (c4) (some m4) (ins es3 ⟨y.k, y.d + 1, y.f⟩)) x).es) rx.r.head zz → zz ∈ (ins es3 ⟨y.k, y.d + 1, y.f⟩))) ∧ 5740 - (k + 1) < 5740 - k
        obtain ⟨e6, he6⟩ := ins_ext es3 ⟨y.k, y.d + 1, y.f⟩
        obtain ⟨e7, he7⟩ := oES_ext (j := j) (Ts := Ts) (x := x) (T := ES.mk S.b A3 c3 m3 es3) (T' := ES.mk S.b A4 c4 (some m4) (ins es3 ⟨y.k, y.d + 1, y.f⟩)) ⟨e6, he6⟩
        have hu2 : ry.r.body[y.d]? = some (-1 - rx.r.head) := by rw [hu, h124]
        have hitz : It X.g s j ⟨y.k, y.d + 1, y.f⟩ := .comp j x rx.r y ry.r hit (rule_at hrx) (by omega) hyit (rule_at hry) hu2
        obtain ⟨e5, he5⟩ := hK4
        refine ⟨⟨?_, fun h => (by cases h), ⟨nodup_ins hK3.1, fun z hz => (mem_ins.1 hz).elim (hK3.2 z) (fun h => h ▸ hitz)⟩, ⟨e5 ++ e6, by rw [he6, he5, List.append_assoc]⟩, fun zz hz => ?_⟩, by omega⟩
        · rw [he7, List.length_append]; omega
        · rw [he7, take_ext (by omega)] at hz
          rcases compP_take hy hz with h5 | ⟨q, _, _, h6⟩
          · exact mem_ins.2 (.inl (hK5 zz h5))
          · exact mem_ins.2 (.inr h6)
       · exact ⟨rfl, rfl, rfl, rfl, rfl, rfl, rfl, trivial⟩
       ·show List.Perm _ ((iCells b7 49 (ruF rx) :: iCells b6 52 (imF x) :: setO (ES.mk S.b (A4) (c4) (some m4) (ins es3 ⟨y.k, y.d + 1, y.f⟩))))
        exact .refl _
       · exact fun _ h => h
      ·skip
       refine c_skip ?_
       refine c_reg ?_
       refine l_q (by decide) (p_move rfl).q ?_
       refine l_q (by decide) (p_add (j := 1) rfl rfl rfl rfl (by show _ ≤ (9223372036854775807 : Nat); omega)).q ?_
       refine l_q (by decide) (p_assign rfl).q ?_
       refine l_nil ?_
       refine c_drop ?_
       refine c_join ((k + 1), (A3), (c3), (m3), (es3)) ?_ ?_ ?_ ?_
       ·show ((k + 1) ≤ (oES j Ts (ES.mk S.b (A3) (c3) (m3) (es3)) x).es.length ∧ (ES.mk S.b (A3) (c3) (m3) (es3)).ok ∧ IsSet X.g s j (es3) ∧ (∃ e : List Im, (es3) = es2 ++ e) ∧ (∀ zz : Im, CompP X.g (List.take (k + 1) (oES j Ts (ES.mk S.b (A3) (c3) (m3) (es3)) x).es) rx.r.head zz → zz ∈ (es3))) ∧ 5740 - (k + 1) < 5740 - k
        refine ⟨⟨hk89, hK2, hK3, hK4, fun zz hz => ?_⟩, by omega⟩
        rcases compP_take hy hz with h5 | ⟨q, h6, h7, h8⟩
        · exact hK5 zz h5
        · exfalso
          rw [rule_at hry] at h6
          injection h6 with h6
          subst h6
          rw [hu] at h7
          injection h7 with h7
          exact h124 h7
       · exact ⟨rfl, rfl, rfl, rfl, rfl, rfl, rfl, trivial⟩
       ·show List.Perm _ ((iCells b7 49 (ruF rx) :: iCells b6 52 (imF x) :: setO (ES.mk S.b (A3) (c3) (m3) (es3))))
        exact .refl _
       · exact fun _ h => h
     ·skip
      refine q_off (j := 5) rfl rfl (by (simp; done)) (by decide) ?_
      refine q_off (j := 5) rfl rfl (by (simp; done)) (by decide) ?_
      refine q_off (j := 5) rfl rfl (by (simp; done)) (by decide) ?_
      refine q_off (j := 5) rfl rfl (by (simp; done)) (by decide) ?_
      refine q_off (j := 5) rfl rfl (by (simp; done)) (by decide) ?_
      refine q_off (j := 5) rfl rfl (by (simp; done)) (by decide) ?_
      refine q_off (j := 5) rfl rfl (by (simp; done)) (by decide) ?_
      refine q_off (j := 5) rfl rfl (by (simp; done)) (by decide) ?_
      refine q_off (j := 5) rfl rfl (by (simp; done)) (by decide) ?_
      refine q_q (by decide) (p_pick rfl rfl).q ?_
      refine q_nil ?_
      refine c_false rfl ?_
      refine c_skip ?_
      refine c_reg ?_
      refine l_q (by decide) (p_move rfl).q ?_
      refine l_q (by decide) (p_add (j := 1) rfl rfl rfl rfl (by show _ ≤ (9223372036854775807 : Nat); omega)).q ?_
      refine l_q (by decide) (p_assign rfl).q ?_
      refine l_nil ?_
      refine c_drop ?_
      refine c_join ((k + 1), (A3), (c3), (m3), (es3)) ?_ ?_ ?_ ?_
      ·show ((k + 1) ≤ (oES j Ts (ES.mk S.b (A3) (c3) (m3) (es3)) x).es.length ∧ (ES.mk S.b (A3) (c3) (m3) (es3)).ok ∧ IsSet X.g s j (es3) ∧ (∃ e : List Im, (es3) = es2 ++ e) ∧ (∀ zz : Im, CompP X.g (List.take (k + 1) (oES j Ts (ES.mk S.b (A3) (c3) (m3) (es3)) x).es) rx.r.head zz → zz ∈ (es3))) ∧ 5740 - (k + 1) < 5740 - k
       refine ⟨⟨hk89, hK2, hK3, hK4, fun zz hz => ?_⟩, by omega⟩
       rcases compP_take hy hz with h5 | ⟨q, h6, h7, h8⟩
       · exact hK5 zz h5
       · exfalso
         rw [rule_at hry] at h6
         injection h6 with h6
         subst h6
         exact h114 (List.getElem?_eq_some_iff.1 h7).1
      · exact ⟨rfl, rfl, rfl, rfl, rfl, rfl, rfl, trivial⟩
      ·show List.Perm _ ((iCells b7 49 (ruF rx) :: iCells b6 52 (imF x) :: setO (ES.mk S.b (A3) (c3) (m3) (es3))))
       exact .refl _
      · exact fun _ h => h
    ·skip
     refine c_exit ?_
     refine c_here ?_
     refine c_reg ?_
     refine l_q (by decide) (p_move rfl).q ?_
     refine l_q (by decide) (p_add (j := 1) rfl rfl rfl rfl (by show _ ≤ (9223372036854775807 : Nat); omega)).q ?_
     refine l_q (by decide) (p_assign rfl).q ?_
     refine l_nil ?_
     refine c_drop ?_
     refine c_drop ?_
     refine c_join ((i + 1), (A3), (c3), (m3), (es3)) ?_ ?_ ?_ ?_
     ·show ((i + 1) ≤ List.length (es3) ∧ (ES.mk S.b (A3) (c3) (m3) (es3)).ok ∧ IsSet X.g s j (es3) ∧ (∃ e : List Im, (es3) = es ++ e) ∧ (List.length (es3) ≤ es.length → ∀ zz : Im, zz ∈ List.take (i + 1) (es3) → DoneAt X.g j (fun f => (Ts f).es) (es3) zz)) ∧ 5740 - (i + 1) < 5740 - i
      have h37 : i < es2.length := h37
      obtain ⟨e5, he5⟩ := hK4
      obtain ⟨e4, he4⟩ := hJ4
      have hle : es2.length ≤ es3.length := by rw [he5]; simp
      have hle4 : es.length ≤ es2.length := by rw [he4]; simp
      refine ⟨⟨by omega, hK2, hK3, ⟨e4 ++ e5, by rw [he5, he4, List.append_assoc]⟩, fun hle2 => ?_⟩, by omega⟩
      have hnil : e5 = [] := List.eq_nil_of_length_eq_zero (by have := congrArg List.length he5; rw [List.length_append] at this; omega)
      rw [hnil, List.append_nil] at he5
      subst he5
      intro zz hz
      rw [take_at hx] at hz
      rcases List.mem_append.1 hz with h5 | h5
      · exact hJ5 (by omega) zz h5
      · rw [List.mem_singleton.1 h5]
        refine done_comp hrx (by omega) (fun z hz => hK5 z ?_)
        rw [List.take_of_length_le (by omega), oES_es]; exact hz
     · exact ⟨rfl, rfl, rfl, rfl, trivial⟩
     ·show List.Perm _ ((setO (ES.mk S.b (A3) (c3) (m3) (es3))))
      exact .refl _
     · exact fun _ h => h
  ·skip
   refine c_exit ?_
   refine c_here ?_
   refine c_reg ?_
   refine l_q (by decide) (p_move rfl).q ?_
   refine l_q (by decide) (p_nilp rfl).q ?_
   refine l_q (by decide) (p_faddro (i := 0) 0 Try.underlying59 rfl inf_46 (by decide) rfl rfl).q ?_
   refine l_q (by decide) (r_loado Try.underlying46 rfl rfl (by repeat constructor) (by rfl)).q ?_
   refine l_q (by decide) (p_len_sl Try.underlying46 rfl).q ?_
   refine l_q (by decide) (p_move rfl).q ?_
   refine l_q (by decide) (p_gtr rfl rfl rfl rfl).q ?_
   refine l_q (by decide) (p_assign rfl).q ?_
   refine l_nil ?_
   refine c_join ((A2), (c2), (m2), (es2), (decide (es.length < es2.length))) ?_ ?_ ?_ ?_
   ·show ((ES.mk S.b (A2) (c2) (m2) (es2)).ok ∧ IsSet X.g s j (es2) ∧ (∀ zz : Im, zz ∈ S.es → zz ∈ (es2)) ∧ ((decide (es.length < es2.length)) = false → ∀ zz : Im, zz ∈ (es2) → DoneAt X.g j (fun f => (Ts f).es) (es2) zz)) ∧ 2 * (5740 - List.length (es2)) + (decide (es.length < es2.length)).toNat < 2 * (5740 - List.length es) + ch.toNat
    have h37 : ¬ i < es2.length := h37
    obtain ⟨e4, he4⟩ := hJ4
    have hle4 : es.length ≤ es2.length := by rw [he4]; simp
    subst h25
    refine ⟨⟨hJ2, hJ3, fun zz h => by rw [he4]; exact List.mem_append.2 (.inl (hI3 zz h)), fun hd zz hz => ?_⟩, ?_⟩
    · have hd := of_decide_eq_false hd
      have := hJ5 (by omega) zz
      rw [List.take_of_length_le (by omega)] at this
      exact this hz
    · by_cases hlt : es.length < es2.length
      · rw [decide_eq_true hlt]; simp only [Bool.toNat_true]; omega
      · rw [decide_eq_false hlt]; simp only [Bool.toNat_true, Bool.toNat_false]; omega
   · exact ⟨rfl, rfl, rfl, trivial⟩
   ·show List.Perm _ ((setO (ES.mk S.b (A2) (c2) (m2) (es2))))
    exact .refl _
   · exact fun _ h => h
 ·skip
  refine c_exit ?_
  refine c_here ?_
  refine c_ret0 rfl (fun w hs => ?_)
  exact ⟨⟨ES.mk S.b A c m es, rfl, hI1, hI2, hI3, hI4 (by simpa using h25)⟩, _, rfl, hs⟩
end Go.Proofs.Ytncagpppmaehhaa
