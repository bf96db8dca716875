/- The walks of the recognizer, twentieth part (advance); conditions: lengths. -/
import Derived.Test.YtncagpppmaehhaaWalksS
namespace Go.Proofs.Ytncagpppmaehhaa
open Go Go.Fx Go.Proofs

open Go.Proofs.Rec
/-- a recognition in memory -/
abbrev earlyO (X : GI) (bo p : Nat) (Ar : Option Addr) (cs : Nat) (bs : List Nat) (L : List ES) : Fx.Own := iCells p 62 (pCells X bo Ar bs.length cs) :: iSl 56 1 ptrF Ar cs bs :: L.flatMap setO
def FullL (X : GI) (s : List Int) (L : List ES) : Prop := ∀ (f : Nat) (S : ES), L[f]? = some S → S.ok ∧ IsSet X.g s f S.es ∧ ∀ x, It X.g s f x → x ∈ S.es
def nthS (L : List ES) (f : Nat) : ES := (L[f]?).getD ⟨0, none, 0, none, []⟩
theorem nthS_at {L : List ES} {f : Nat} {S : ES} (h : L[f]? = some S) : nthS L f = S := by unfold nthS; rw [h]; rfl
theorem nthS_lt {L : List ES} {f : Nat} (h : f < L.length) : L[f]? = some (nthS L f) := by unfold nthS; rw [List.getElem?_eq_getElem h]; rfl
theorem mem_setsO {L : List ES} {f : Nat} {S : ES} (h : L[f]? = some S) : ∀ y, y ∈ setO S → y ∈ L.flatMap setO := fun y hy => List.mem_flatMap.2 ⟨S, List.mem_of_getElem? h, hy⟩
theorem set_holds {U : ES} {w : World} (h : ∀ y, y ∈ setO U → y.holds w) : w.cell? ⟨U.b, 0 + 0, none⟩ = some (.slice U.A U.es.length U.c) ∧ Sl 3 imF U.A U.es w :=
  ⟨(cells_cell (h (iCells U.b 59 [.slice U.A U.es.length U.c, .map U.m]) (List.mem_cons_self ..)) 0).trans rfl, row_sl len_imF (h (iSl 52 3 imF U.A U.c U.es) (List.mem_cons_of_mem _ (List.mem_cons_self ..))) (by decide)⟩
theorem set_at {w0 w : World} {K : List Nat} {σ : Fx.Own} {ρ : Fx.Facts} {U : ES} (hs : St w0 K w σ ρ) (hσ : ∀ y, y ∈ setO U → y ∈ σ) : w.cell? ⟨U.b, 0 + 0, none⟩ = some (.slice U.A U.es.length U.c) ∧ Sl 3 imF U.A U.es w := set_holds fun y hy => (hs.own y (hσ y hy)).1
theorem early_push (a b : Fx.Item) (L : List ES) (T : ES) : (setO T ++ ([a, b] ++ L.flatMap setO)).Perm (a :: b :: (L ++ [T]).flatMap setO) := by
  rw [List.flatMap_append, List.flatMap_cons, List.flatMap_nil, List.append_nil]
  exact List.Perm.trans (l₂ := a :: b :: (setO T ++ L.flatMap setO)) (List.perm_append_comm_assoc (setO T) [a, b] (L.flatMap setO)) ((List.perm_append_comm.cons b).cons a)
theorem FullL.push {X : GI} {s : List Int} {L : List ES} {T : ES} (h : FullL X s L) (h1 : T.ok) (h2 : IsSet X.g s L.length T.es) (h3 : ∀ x, It X.g s L.length x → x ∈ T.es) : FullL X s (L ++ [T]) := fun f S hf => by
  by_cases hl : f < L.length
  · rw [List.getElem?_append_left hl] at hf; exact h f S hf
  · rw [List.getElem?_append_right (by omega)] at hf
    have := (List.getElem?_eq_some_iff.1 hf).1
    have e : f = L.length := by simp at this; omega
    subst e
    rw [Nat.sub_self] at hf
    injection hf with hf
    subst hf
    exact ⟨h1, h2, h3⟩
/-- what advance leaves -/
abbrev AdvR (X : GI) (s : List Int) (L : List ES) := { z : Option Addr × Nat × ES // FullL X s (L ++ [z.2.2]) }
theorem scanP_take {g : Ana.Gr} {es : List Im} {k : Nat} {y : Im} {t : Int} {z : Im} (hy : es[k]? = some y) (hz : ScanP g (es.take (k + 1)) t z) : ScanP g (es.take k) t z ∨ (∃ q, g.rules[y.k]? = some q ∧ q.body[y.d]? = some t ∧ 0 ≤ t ∧ z = ⟨y.k, y.d + 1, y.f⟩) := by
  obtain ⟨u, h1, q, h2, h3, h4, h5⟩ := hz
  rw [take_at hy] at h1
  rcases List.mem_append.1 h1 with h1 | h1
  · exact .inl ⟨u, h1, q, h2, h3, h4, h5⟩
  · rw [List.mem_singleton.1 h1] at h2 h3 h5
    exact .inr ⟨q, h2, h3, h4, h5⟩
theorem scanP_more {g : Ana.Gr} {es : List Im} {k : Nat} {t : Int} {z : Im} (hz : ScanP g (es.take k) t z) : ScanP g (es.take (k + 1)) t z := by
  obtain ⟨u, h1, h⟩ := hz
  refine ⟨u, ?_, h⟩
  have e : es.take k = (es.take (k + 1)).take k := by rw [List.take_take]; congr 1; omega
  rw [e] at h1
  exact List.mem_of_mem_take h1
theorem inf_59 : InfoIs Try.prog 59 2 32 (.agg #[.slice none 0 0, .map none]) := by unfold InfoIs; kernel_rfl
theorem inf_62 : InfoIs Try.prog 62 6 128 (.agg #[.slice none 0 0, .slice none 0 0, .int .i64 0, .slice none 0 0, .slice none 0 0, .slice none 0 0]) := by unfold InfoIs; kernel_rfl
theorem pl_59 : PlacesIs Try.prog 59 [(0, 1), (1, 1)] := ⟨_, Try.underlying59, by kernel_rfl⟩
theorem pl_62 : PlacesIs Try.prog 62 [(0, 4), (4, 1), (5, 1)] := ⟨_, Try.underlying62, by kernel_rfl⟩
theorem call_35 : Callable Try.prog 35 := ⟨_, Try.func35, by kernel_rfl, rfl⟩
theorem advance_ok (X : GI) (hX : X.small) (ok : Ana.Ok2 X.g) (p bo j cs : Nat) (Ar : Option Addr) (s : List Int) (hsl : s.length ≤ 40) (bs : List Nat) (L : List ES) (hbs : bs = L.map ES.b) (hL : L.length = j + 1) (hfull : FullL X s L) (t : Int) (ht : s[j]? = some t) (w : World) (h : St w (keysOf (earlyO X bo p Ar cs bs L)) w (earlyO X bo p Ar cs bs L) (prodT X bo :: [Bd X.xs, Sl 3 ruF X.Ar X.xs, Sl 1 strF X.An X.nts, Sl 1 strF X.At X.terms])) :
   Calls Try.prog 36 #[.pointer (some ⟨p, 0, none⟩), .int .i64 t] w (Ret fun v w' => ∃ (z : AdvR X s L) (ρ' : Facts), v = .tuple #[] ∧ St w (keysOf (earlyO X bo p Ar cs bs L)) w' (earlyO X bo p z.1.1 z.1.2.1 (bs ++ [z.1.2.2.b]) (L ++ [z.1.2.2])) ρ') := by
 have hnl := ok.nl
 have htl := ok.tl
 have hxl : X.xs.length ≤ 20 := by have := ok.rl; rwa [show X.g.rules.length = X.xs.length from List.length_map ..] at this
 refine calls_fx (l := [.pointer (some ⟨p, 0, none⟩), .int .i64 t]) Try.func36 rfl Try.ntmps36 (Nat.le_of_ble_eq_true rfl) h ?_
 refine c_seq ?_
 obtain ⟨SL, hSL⟩ := at_some (l := L) (n := j) (by omega)
 have hLO := mem_setsO hSL
 obtain ⟨hSL1, hSL2, hSL3⟩ := hfull j SL hSL
 have hbl2 : bs.length = j + 1 := by rw [hbs, List.length_map, hL]
 have hbl3 : bs[bs.length - 1]? = some SL.b := by rw [hbl2, hbs, List.getElem?_map, show j + 1 - 1 = j from rfl, hSL]; rfl
 have hsll := hSL2.len ok hsl
 have hjs := (List.getElem?_eq_some_iff.1 ht).1
 refine c_reg ?_
 refine l_q (by decide) (((p_build (cells := #[_, _]) inf_59 pl_59 rfl rfl)).to (u := .agg #[.slice none 0 0, .map none]) (rfl)).q ?_
 refine l_box (by decide) rfl _ rfl (fun b9 => ?_)
 refine l_q (by decide) (p_assign rfl).q ?_
 refine l_nil ?_
 refine c_seq ?_
 refine c_seq ?_
 refine c_draw mixed (by decide +kernel) ?_
 refine q_q (by decide) (p_move rfl).q ?_
 refine q_q (by decide) (p_nilp rfl).q ?_
 refine q_q (by decide) (p_faddro (i := 2) 5 Try.underlying62 rfl inf_60 (by decide) rfl rfl).q ?_
 refine q_q (by decide) (r_loado Try.underlying60 rfl rfl (by repeat constructor) (by rfl)).q ?_
 refine q_q (by decide) (p_move rfl).q ?_
 refine q_q (by decide) (p_nilp rfl).q ?_
 refine q_q (by decide) (p_faddro (i := 2) 5 Try.underlying62 rfl inf_60 (by decide) rfl rfl).q ?_
 refine q_q (by decide) (r_loado Try.underlying60 rfl rfl (by repeat constructor) (by rfl)).q ?_
 refine q_q (by decide) (p_len_sl Try.underlying60 rfl).q ?_
 refine q_q (by decide) (p_sub (j := 1) rfl rfl rfl rfl (by omega) (by show _ ≤ (9223372036854775807 : Nat); omega)).q ?_
 refine q_q (by decide) (r_index Try.underlying60 inf_56 rfl rfl rfl (by exact .own (by repeat constructor) (by decide) (fun _ => rfl)) rfl (by omega)).q ?_
 refine q_q (by decide) (r_load1 Try.underlying56 rfl rfl (by exact .own (by repeat constructor) (by decide) (fun _ => rfl)) (by assumption) (by rfl)).q ?_
 refine q_q (by decide) (p_nilp rfl).q ?_
 refine q_q (by decide) (p_faddro (i := 0) 0 Try.underlying59 rfl inf_46 (by decide) rfl rfl).q ?_
 refine q_q (by decide) (r_loadh Try.underlying46 rfl rfl (fun w hs => (set_at (U := SL) hs (fun y hy => List.mem_cons_of_mem _ (List.mem_cons_of_mem _ (List.mem_cons_of_mem _ (hLO y hy))))).1)).q ?_
 refine q_q (by decide) (p_len_sl Try.underlying46 rfl).q ?_
 refine q_q (by decide) (p_move (v := .int .i64 ((0 : Nat) : Int)) rfl).q ?_
 refine q_nil ?_
 refine c_block ?_
 refine c_sl0 52 3 imF ?_
 refine c_loop (S := Nat × Option Addr × Nat × Option Nat × List Im) (fun zs => zs.1 ≤ SL.es.length ∧ (ES.mk b9 zs.2.1 zs.2.2.1 zs.2.2.2.1 zs.2.2.2.2).ok ∧ Adds (ScanP X.g (SL.es.take zs.1) t) [] zs.2.2.2.2 ∧ List.length zs.2.2.2.2 ≤ zs.1) (fun zs => SL.es.length - zs.1) (fun zs => [(0, .pointer (some ⟨p, 0, none⟩)), (1, .int .i64 t), (4, .pointer (some ⟨b9, 0, none⟩)), (24, .slice SL.A SL.es.length SL.c), (25, .int .i64 (SL.es.length : Int)), (26, .int .i64 (zs.1 : Int))]) (fun zs => (iCells p 62 (pCells X bo Ar bs.length cs) :: iSl 56 1 ptrF Ar cs bs :: (setO (ES.mk b9 zs.2.1 zs.2.2.1 zs.2.2.2.1 zs.2.2.2.2) ++ L.flatMap setO))) (fun zs => (prodT X bo :: [Bd X.xs, Sl 3 ruF X.Ar X.xs, Sl 1 strF X.An X.nts, Sl 1 strF X.At X.terms])) (0, none, 0, none, []) ?_ ?_ ?_ ?_ ?_
 · show (0) ≤ SL.es.length ∧ (ES.mk b9 (none) (0) (none) ([])).ok ∧ Adds (ScanP X.g (SL.es.take (0)) t) [] ([]) ∧ List.length ([]) ≤ (0)
   exact ⟨Nat.zero_le _, fun _ => rfl, Adds.none _ (fun x h => by obtain ⟨y, h1, _⟩ := h; simp at h1), Nat.le_refl _⟩
 · exact ⟨rfl, rfl, rfl, rfl, rfl, rfl, trivial⟩
 · exact (by repeat (first | exact List.Perm.refl _ | refine List.Perm.cons _ ?_ | refine (front1 _ _ _).trans (List.Perm.cons _ ?_) | refine (front2 _ _ _ _).trans (List.Perm.cons _ ?_) | refine (front3 _ _ _ _ _).trans (List.Perm.cons _ ?_) | refine (front4 _ _ _ _ _ _).trans (List.Perm.cons _ ?_)))
 · exact fun _ h => h
 rintro ⟨i, A, c, m, es⟩ hinv
 have hinv : i ≤ SL.es.length ∧ (ES.mk b9 A c m es).ok ∧ Adds (ScanP X.g (SL.es.take i) t) [] es ∧ List.length es ≤ i := hinv
 obtain ⟨hi, hok, hA, hle⟩ := hinv
 show Cont _ _ _ _ [(0, .pointer (some ⟨p, 0, none⟩)), (1, .int .i64 t), (4, .pointer (some ⟨b9, 0, none⟩)), (24, .slice SL.A SL.es.length SL.c), (25, .int .i64 (SL.es.length : Int)), (26, .int .i64 (i : Int))] ((iCells p 62 (pCells X bo Ar bs.length cs) :: iSl 56 1 ptrF Ar cs bs :: (setO (ES.mk b9 A c m es) ++ L.flatMap setO))) (prodT X bo :: [Bd X.xs, Sl 3 ruF X.Ar X.xs, Sl 1 strF X.An X.nts, Sl 1 strF X.At X.terms])
 refine c_seq ?_
 refine c_reg ?_
 refine l_q (by decide) (p_lss rfl rfl rfl rfl).q ?_
 refine l_nil ?_
 refine c_seq ?_
 refine c_dec rfl (fun h27 => ?_) (fun h27 => ?_)
 ·skip
  obtain ⟨y, hy⟩ := at_some (l := SL.es) (n := i) (by omega)
  have hyit := hSL2.2 y (List.mem_of_getElem? hy)
  obtain ⟨r1, hgy⟩ := hyit.good ok.h0
  obtain ⟨ry, hry, hr1⟩ := at_rule hgy.rule
  subst hr1
  have hyk : y.k < X.xs.length := (List.getElem?_eq_some_iff.1 hry).1
  have hbly := ok.bl _ (rule_mem hry)
  have hyd := hgy.dot
  have hyf := hgy.pos
  refine c_skip ?_
  refine c_seq ?_
  refine c_block ?_
  refine c_seq ?_
  refine c_reg ?_
  refine l_q (by decide) (r_index (es := SL.es) (f := imF) (j := i) Try.underlying46 inf_52 rfl rfl rfl (fun w hs => (set_at (U := SL) hs (fun y hy => List.mem_cons_of_mem _ (List.mem_cons_of_mem _ (List.mem_append.2 (.inr (hLO y hy)))))).2) rfl h27).q ?_
  refine l_q (by decide) (r_loada (es := SL.es) (f := imF) (j := i) Try.underlying52 rfl inf_52 rfl (fun w hs => (set_at (U := SL) hs (fun y hy => List.mem_cons_of_mem _ (List.mem_cons_of_mem _ (List.mem_append.2 (.inr (hLO y hy)))))).2) hy).q ?_
  refine l_alloc (by decide) inf_52 _ rfl (fun b6 => ?_)
  (refine l_storew inf_52 rfl rfl rfl rfl rfl ?_)
  refine l_nil ?_
  refine c_seq ?_
  refine c_draw mixed (by decide +kernel) ?_
  refine q_q (by decide) (p_move rfl).q ?_
  refine q_q (by decide) (p_nilp rfl).q ?_
  refine q_q (by decide) (p_faddro (i := 0) 0 Try.underlying62 rfl inf_25 (by decide) rfl rfl).q ?_
  refine q_q (by decide) (p_faddro (i := 3) 3 Try.underlying25 rfl inf_23 (by decide) rfl rfl).q ?_
  refine q_q (by decide) (r_loado Try.underlying23 rfl rfl (by repeat constructor) (by rfl)).q ?_
  refine q_q (by decide) (p_faddro (i := 0) 0 Try.underlying52 rfl inf_3 (by decide) rfl rfl).q ?_
  refine q_q (by decide) (r_loado Try.underlying3 rfl rfl (by repeat constructor) (by rfl)).q ?_
  refine q_q (by decide) (r_index Try.underlying23 inf_49 rfl rfl rfl (by exact .fact (by repeat constructor)) rfl (by omega)).q ?_
  refine q_q (by decide) (p_faddr (i := 1) 1 Try.underlying49 rfl inf_26 (by decide) rfl rfl).q ?_
  refine q_q (by decide) (r_loadf Try.underlying26 rfl rfl (by exact .fact (by repeat constructor)) (by assumption) (by rfl)).q ?_
  refine q_q (by decide) (p_assign rfl).q ?_
  refine q_nil ?_
  refine c_seq ?_
  refine c_reg ?_
  refine l_q (by decide) (p_faddro (i := 1) 1 Try.underlying52 rfl inf_3 (by decide) rfl rfl).q ?_
  refine l_q (by decide) (r_loado Try.underlying3 rfl rfl (by repeat constructor) (by rfl)).q ?_
  refine l_q (by decide) (p_move rfl).q ?_
  refine l_q (by decide) (p_len_sl Try.underlying26 rfl).q ?_
  refine l_q (by decide) (p_lss rfl rfl rfl rfl).q ?_
  refine l_q (by decide) (p_move rfl).q ?_
  refine l_splitd (t := 45) rfl (fun h45 => ?_) (fun h45 => ?_)
  ·skip
   obtain ⟨u, hu⟩ := at_some (l := ry.r.body) (n := y.d) (by omega)
   refine l_g (j := 5) rfl rfl (by decide) (p_move rfl).q ?_
   refine l_g (j := 5) rfl rfl (by decide) (p_faddro (i := 1) 1 Try.underlying52 rfl inf_3 (by decide) rfl rfl).q ?_
   refine l_g (j := 5) rfl rfl (by decide) (r_loado Try.underlying3 rfl rfl (by repeat constructor) (by rfl)).q ?_
   refine l_g (j := 5) rfl rfl (by decide) (r_index Try.underlying26 inf_3 rfl rfl rfl (by exact SlIn.body (by repeat constructor) (by assumption)) rfl (by omega)).q ?_
   refine l_g (j := 5) rfl rfl (by decide) (r_load1 Try.underlying3 rfl rfl (by exact SlIn.body (by repeat constructor) (by assumption)) (by assumption) (by rfl)).q ?_
   refine l_g (j := 5) rfl rfl (by decide) (p_move rfl).q ?_
   refine l_g (j := 5) rfl rfl (by decide) (p_eqli rfl rfl).q ?_
   refine l_q (by decide) (p_pick rfl rfl).q ?_
   refine l_q (by decide) (p_move rfl).q ?_
   refine l_splitd (t := 54) rfl (fun h54 => ?_) (fun h54 => ?_)
   ·skip
    refine l_g (j := 14) rfl rfl (by decide) (p_move rfl).q ?_
    refine l_g (j := 14) rfl rfl (by decide) (p_geqi rfl rfl).q ?_
    refine l_q (by decide) (p_pick rfl rfl).q ?_
    refine l_nil ?_
    refine c_dec rfl (fun h57 => ?_) (fun h57 => ?_)
    ·skip
     refine c_reg ?_
     refine l_q (by decide) (p_move rfl).q ?_
     refine l_q (by decide) (p_faddro (i := 0) 0 Try.underlying52 rfl inf_3 (by decide) rfl rfl).q ?_
     refine l_q (by decide) (r_loado Try.underlying3 rfl rfl (by repeat constructor) (by rfl)).q ?_
     refine l_q (by decide) (p_faddro (i := 1) 1 Try.underlying52 rfl inf_3 (by decide) rfl rfl).q ?_
     refine l_q (by decide) (r_loado Try.underlying3 rfl rfl (by repeat constructor) (by rfl)).q ?_
     refine l_q (by decide) (p_add (j := 1) rfl rfl rfl rfl (by show _ ≤ (9223372036854775807 : Nat); omega)).q ?_
     refine l_q (by decide) (p_faddro (i := 2) 2 Try.underlying52 rfl inf_3 (by decide) rfl rfl).q ?_
     refine l_q (by decide) (r_loado Try.underlying3 rfl rfl (by repeat constructor) (by rfl)).q ?_
     refine l_q (by decide) (((p_build (cells := #[_, _, _]) inf_52 pl_52 rfl rfl)).to (u := imK ⟨y.k, y.d + 1, y.f⟩) (rfl)).q ?_
     refine l_perm (List.perm_append_comm_assoc [_, _, _] (setO (ES.mk b9 A c m es)) (L.flatMap setO)) ?_
     refine l_callo (τ := setO (ES.mk b9 A c m es)) (fun _ : Option Addr × Nat × Nat => .tuple #[]) (fun z => setO (ES.add (ES.mk b9 A c m es) ⟨y.k, y.d + 1, y.f⟩ z)) (by decide) call_44 rfl (fun w hs => add_ok (ES.mk b9 A c m es) hok ⟨y.k, y.d + 1, y.f⟩ (by show es.length ≤ _; omega) _ w hs) (fun z => ?_)
     obtain ⟨A4, c4, m4⟩ := z
     refine l_nil ?_
     refine c_reg ?_
     refine l_q (by decide) (p_add (j := 1) rfl rfl rfl rfl (by show _ ≤ (9223372036854775807 : Nat); omega)).q ?_
     refine l_q (by decide) (p_move rfl).q ?_
     refine l_nil ?_
     refine c_perm (List.perm_append_comm_assoc (setO _) [_, _, _] _) ?_
     refine c_drop ?_
     refine c_join ((i + 1), (A4), (c4), (some m4), (ins es ⟨y.k, y.d + 1, y.f⟩)) ?_ ?_ ?_ ?_
     ·show ((i + 1) ≤ SL.es.length ∧ (ES.mk b9 (A4) (c4) (some m4) (ins es ⟨y.k, y.d + 1, y.f⟩)).ok ∧ Adds (ScanP X.g (SL.es.take (i + 1)) t) [] (ins es ⟨y.k, y.d + 1, y.f⟩) ∧ List.length (ins es ⟨y.k, y.d + 1, y.f⟩) ≤ (i + 1)) ∧ SL.es.length - (i + 1) < SL.es.length - i
      refine ⟨⟨by omega, fun h => (by cases h), hA.step ⟨y, by rw [take_at hy]; simp, ry.r, rule_at hry, by rw [hu, h54], h57, rfl⟩ (fun z hz => scanP_more hz) (fun z hz => ?_), ?_⟩, by omega⟩
      · rcases scanP_take hy hz with h5 | ⟨_, _, _, _, h6⟩
        · exact .inl h5
        · exact .inr h6
      · have := ins_len es ⟨y.k, y.d + 1, y.f⟩; omega
     · exact ⟨rfl, rfl, rfl, rfl, rfl, rfl, trivial⟩
     ·show List.Perm _ ((iCells p 62 (pCells X bo Ar bs.length cs) :: iSl 56 1 ptrF Ar cs bs :: (setO (ES.mk b9 (A4) (c4) (some m4) (ins es ⟨y.k, y.d + 1, y.f⟩)) ++ L.flatMap setO)))
      exact .refl _
     · exact fun _ h => h
    ·skip
     refine c_skip ?_
     refine c_reg ?_
     refine l_q (by decide) (p_add (j := 1) rfl rfl rfl rfl (by show _ ≤ (9223372036854775807 : Nat); omega)).q ?_
     refine l_q (by decide) (p_move rfl).q ?_
     refine l_nil ?_
     refine c_drop ?_
     refine c_join ((i + 1), (A), (c), (m), (es)) ?_ ?_ ?_ ?_
     ·show ((i + 1) ≤ SL.es.length ∧ (ES.mk b9 (A) (c) (m) (es)).ok ∧ Adds (ScanP X.g (SL.es.take (i + 1)) t) [] (es) ∧ List.length (es) ≤ (i + 1)) ∧ SL.es.length - (i + 1) < SL.es.length - i
      refine ⟨⟨by omega, hok, hA.sub (fun z hz => scanP_more hz) (fun z hz => .inl ?_), by omega⟩, by omega⟩
      rcases scanP_take hy hz with h5 | ⟨q, h6, h7, h8, _⟩
      · exact h5
      · exfalso
        rw [rule_at hry] at h6
        injection h6 with h6
        subst h6
        exact h57 h8
     · exact ⟨rfl, rfl, rfl, rfl, rfl, rfl, trivial⟩
     ·show List.Perm _ ((iCells p 62 (pCells X bo Ar bs.length cs) :: iSl 56 1 ptrF Ar cs bs :: (setO (ES.mk b9 (A) (c) (m) (es)) ++ L.flatMap setO)))
      exact .refl _
     · exact fun _ h => h
   ·skip
    refine l_off (j := 14) rfl rfl (by (simp; done)) (by decide) ?_
    refine l_off (j := 14) rfl rfl (by (simp; done)) (by decide) ?_
    refine l_q (by decide) (p_pick rfl rfl).q ?_
    refine l_nil ?_
    refine c_false rfl ?_
    refine c_skip ?_
    refine c_reg ?_
    refine l_q (by decide) (p_add (j := 1) rfl rfl rfl rfl (by show _ ≤ (9223372036854775807 : Nat); omega)).q ?_
    refine l_q (by decide) (p_move rfl).q ?_
    refine l_nil ?_
    refine c_drop ?_
    refine c_join ((i + 1), (A), (c), (m), (es)) ?_ ?_ ?_ ?_
    ·show ((i + 1) ≤ SL.es.length ∧ (ES.mk b9 (A) (c) (m) (es)).ok ∧ Adds (ScanP X.g (SL.es.take (i + 1)) t) [] (es) ∧ List.length (es) ≤ (i + 1)) ∧ SL.es.length - (i + 1) < SL.es.length - i
     refine ⟨⟨by omega, hok, hA.sub (fun z hz => scanP_more hz) (fun z hz => .inl ?_), by omega⟩, by omega⟩
     rcases scanP_take hy hz with h5 | ⟨q, h6, h7, h8, _⟩
     · exact h5
     · exfalso
       rw [rule_at hry] at h6
       injection h6 with h6
       subst h6
       rw [hu] at h7
       injection h7 with h7
       exact h54 h7
    · exact ⟨rfl, rfl, rfl, rfl, rfl, rfl, trivial⟩
    ·show List.Perm _ ((iCells p 62 (pCells X bo Ar bs.length cs) :: iSl 56 1 ptrF Ar cs bs :: (setO (ES.mk b9 (A) (c) (m) (es)) ++ L.flatMap setO)))
     exact .refl _
    · exact fun _ h => h
  ·skip
   refine l_off (j := 5) rfl rfl (by (simp; done)) (by decide) ?_
   refine l_off (j := 5) rfl rfl (by (simp; done)) (by decide) ?_
   refine l_off (j := 5) rfl rfl (by (simp; done)) (by decide) ?_
   refine l_off (j := 5) rfl rfl (by (simp; done)) (by decide) ?_
   refine l_off (j := 5) rfl rfl (by (simp; done)) (by decide) ?_
   refine l_off (j := 5) rfl rfl (by (simp; done)) (by decide) ?_
   refine l_off (j := 5) rfl rfl (by (simp; done)) (by decide) ?_
   refine l_q (by decide) (p_pick rfl rfl).q ?_
   refine l_q (by decide) (p_move rfl).q ?_
   refine l_off (j := 14) rfl rfl (by (simp; done)) (by decide) ?_
   refine l_off (j := 14) rfl rfl (by (simp; done)) (by decide) ?_
   refine l_q (by decide) (p_pick rfl rfl).q ?_
   refine l_nil ?_
   refine c_false rfl ?_
   refine c_skip ?_
   refine c_reg ?_
   refine l_q (by decide) (p_add (j := 1) rfl rfl rfl rfl (by show _ ≤ (9223372036854775807 : Nat); omega)).q ?_
   refine l_q (by decide) (p_move rfl).q ?_
   refine l_nil ?_
   refine c_drop ?_
   refine c_join ((i + 1), (A), (c), (m), (es)) ?_ ?_ ?_ ?_
   ·show ((i + 1) ≤ SL.es.length ∧ (ES.mk b9 (A) (c) (m) (es)).ok ∧ Adds (ScanP X.g (SL.es.take (i + 1)) t) [] (es) ∧ List.length (es) ≤ (i + 1)) ∧ SL.es.length - (i + 1) < SL.es.length - i
    refine ⟨⟨by omega, hok, hA.sub (fun z hz => scanP_more hz) (fun z hz => .inl ?_), by omega⟩, by omega⟩
    rcases scanP_take hy hz with h5 | ⟨q, h6, h7, h8, _⟩
    · exact h5
    · exfalso
      rw [rule_at hry] at h6
      injection h6 with h6
      subst h6
      exact h45 (List.getElem?_eq_some_iff.1 h7).1
   · exact ⟨rfl, rfl, rfl, rfl, rfl, rfl, trivial⟩
   ·show List.Perm _ ((iCells p 62 (pCells X bo Ar bs.length cs) :: iSl 56 1 ptrF Ar cs bs :: (setO (ES.mk b9 (A) (c) (m) (es)) ++ L.flatMap setO)))
    exact .refl _
   · exact fun _ h => h
 ·skip
  refine c_exit ?_
  refine c_here ?_
  refine c_seq ?_
  have hA2 : Adds (ScanP X.g SL.es t) [] es := by rw [List.take_of_length_le (by omega)] at hA; exact hA
  refine c_reg ?_
  refine l_q (by decide) (p_move rfl).q ?_
  refine l_q (by decide) (p_move rfl).q ?_
  refine l_q (by decide) (p_nilp rfl).q ?_
  refine l_q (by decide) (p_faddro (i := 2) 5 Try.underlying62 rfl inf_60 (by decide) rfl rfl).q ?_
  refine l_q (by decide) (r_loado Try.underlying60 rfl rfl (by repeat constructor) (by rfl)).q ?_
  refine l_q (by decide) (p_move rfl).q ?_
  refine l_buildSlice (by decide) Try.underlying60 inf_56 (by decide) (by decide) rfl rfl rfl rfl (fun b75 => ?_)
  (refine l_perm (.cons _ (front1 _ _ _)) ?_; refine l_append1 (b9) (by decide) Try.underlying60 inf_56 rfl (by decide) rfl rfl rfl rfl rfl rfl (by omega) (by omega) (fun A76 c76 hA76 => ?_))
  refine l_q (by decide) (p_nilp rfl).q ?_
  refine l_q (by decide) (p_faddro (i := 2) 5 Try.underlying62 rfl inf_60 (by decide) rfl rfl).q ?_
  (refine l_perm (front1 _ _ _) ?_; refine l_store inf_60 rfl rfl rfl rfl (by exact Nat.le_of_ble_eq_true rfl) ?_)
  refine l_nil ?_
  refine c_reg ?_
  refine l_q (by decide) (p_move rfl).q ?_
  have hl1 : (bs ++ [b9]).length = j + 1 + 1 := by rw [List.length_append, hbl2]; rfl
  refine l_perm (τ := iCells p 62 (pCells X bo A76 (j + 1 + 1) c76) :: iSl 56 1 ptrF A76 c76 (bs ++ [b9]) :: (setO (ES.mk b9 A c m es) ++ L.flatMap setO)) (by rw [← hl1]; exact List.Perm.refl _) ?_
  refine l_perm (List.perm_append_comm_assoc [_, _] (setO (ES.mk b9 A c m es)) (L.flatMap setO)) ?_
  have hitN : ∀ z, ScanP X.g SL.es t z → It X.g s (j + 1) z := fun z hz => scan_it ht (fun y hy => hSL2.2 y hy) hz
  have hsetN : IsSet X.g s (j + 1) es := hA2.isSet ⟨List.nodup_nil, fun x h => absurd h List.not_mem_nil⟩ hitN
  refine l_callk (τ := setO (ES.mk b9 A c m es)) (fun _ : CloseR X s (ES.mk b9 A c m es) (j + 1) (nthS L) => .tuple #[]) (fun z => setO z.1) (by decide) call_35 rfl (fun w hs => close_ok X hX ok p bo (j + 1) c76 A76 (L.flatMap setO) s hsl (by omega) (bs ++ [b9]) hl1 (nthS L) (ES.mk b9 A c m es) (by rw [List.getElem?_append_right (by omega), show j + 1 - bs.length = 0 by omega]; rfl) (fun f hf => ⟨by rw [List.getElem?_append_left (by omega), hbs, List.getElem?_map, nthS_lt (by omega)]; rfl, mem_setsO (nthS_lt (by omega)), (hfull f _ (nthS_lt (by omega))).2.1⟩) hok hsetN w hs) (fun z => ?_)
  obtain ⟨T, hT⟩ := z
  refine l_nil ?_
  refine c_ret0 rfl (fun w hs => ?_)
  have hb9 : T.b = b9 := hT.b
  have hfin : FullL X s (L ++ [T]) := by
    refine hfull.push hT.ok (by rw [hL]; exact hT.set) (fun x hx => ?_)
    rw [hL] at hx
    refine It.full (g := X.g) (s := s) (j := j + 1) (sets := fun f => (nthS L f).es) ok.h0 (fun h => by omega) (fun i hi t2 ht2 z hz => ?_) (fun i hi x hx => (hfull i _ (nthS_lt (by omega))).2.2 x hx) hT.done hx rfl
    obtain rfl : i = j := by omega
    rw [ht] at ht2
    injection ht2 with ht2
    subst ht2
    rw [nthS_at hSL] at hz
    exact hT.sub _ (hA2.all z hz)
  have hfinal := hs.perm (early_push _ _ L T)
  rw [← hl1, ← hb9] at hfinal
  exact ⟨⟨(A76, c76, T), hfin⟩, _, rfl, hfinal⟩
end Go.Proofs.Ytncagpppmaehhaa
