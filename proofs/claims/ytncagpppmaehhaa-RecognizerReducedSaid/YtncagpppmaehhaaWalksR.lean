/- The walks of the recognizer, eighteenth part (predict); conditions: lengths. -/
import Derived.Test.YtncagpppmaehhaaWalksQ
import Derived.Test.YtncagpppmaehhaaSet
namespace Go.Proofs.Ytncagpppmaehhaa
open Go Go.Fx Go.Proofs

open Go.Proofs.Rec
def PredQ (X : GI) (j : Nat) (h : Int) (i : Nat) (x : Im) : Prop := PredP X.g j h x ∧ x.k < i
theorem rule_at {X : GI} {x : XR} {k : Nat} (h : X.xs[k]? = some x) : X.g.rules[k]? = some x.r := by
  show (X.xs.map XR.r)[k]? = some x.r
  rw [List.getElem?_map, h]; rfl
theorem at_rule {X : GI} {r : Ana.Rl} {k : Nat} (h : X.g.rules[k]? = some r) : ∃ x, X.xs[k]? = some x ∧ x.r = r := by
  have h : (X.xs.map XR.r)[k]? = some r := h
  rw [List.getElem?_map] at h
  cases hx : X.xs[k]? with
  | none => rw [hx] at h; cases h
  | some x => rw [hx] at h; injection h with h; exact ⟨x, rfl, h⟩
theorem predQ_yes {X : GI} {j i : Nat} {h : Int} {x : XR} (hx : X.xs[i]? = some x) (h1 : x.r.head = h) (h2 : Ana.allG true (pP X) x.r.body = true) : PredQ X j h (i + 1) ⟨i, 0, j⟩ := ⟨⟨x.r, rule_at hx, h1, works_all.1 h2, rfl, rfl⟩, Nat.lt_succ_self i⟩
theorem predQ_old {X : GI} {j i : Nat} {h : Int} {y : Im} (hy : PredQ X j h i y) : PredQ X j h (i + 1) y := ⟨hy.1, by have := hy.2; omega⟩
theorem predQ_new {X : GI} {j i : Nat} {h : Int} {y : Im} (hy : PredQ X j h (i + 1) y) : PredQ X j h i y ∨ y = ⟨i, 0, j⟩ := by
  by_cases e : y.k = i
  · obtain ⟨⟨q, _, _, _, h4, h5⟩, _⟩ := hy
    cases y
    simp only at e h4 h5
    subst e; subst h4; subst h5
    exact .inr rfl
  · exact .inl ⟨hy.1, by have := hy.2; omega⟩
theorem predQ_no {X : GI} {j i : Nat} {h : Int} {x : XR} (hx : X.xs[i]? = some x) (hn : ¬ (x.r.head = h ∧ Ana.allG true (pP X) x.r.body = true)) {y : Im} (hy : PredQ X j h (i + 1) y) : PredQ X j h i y := by
  rcases predQ_new hy with h1 | rfl
  · exact h1
  · obtain ⟨⟨q, h1, h2, h3, _, _⟩, _⟩ := hy
    have h1 : X.g.rules[i]? = some q := h1
    rw [rule_at hx] at h1
    injection h1 with h1
    subst h1
    exact absurd ⟨h2, works_all.2 h3⟩ hn
/-- what predict leaves -/
abbrev PredR (X : GI) (S : ES) (j : Nat) (h : Int) := { T : ES // T.b = S.b ∧ T.ok ∧ Adds (PredP X.g j h) S.es T.es ∧ T.es.length ≤ S.es.length + 20 }
theorem inf_60 : InfoIs Try.prog 60 1 24 (.slice none 0 0) := by unfold InfoIs; kernel_rfl
theorem pl_52 : PlacesIs Try.prog 52 [(0, 1), (1, 1), (2, 1)] := ⟨_, Try.underlying52, by kernel_rfl⟩
theorem call_44 : Callable Try.prog 44 := ⟨_, Try.func44, by kernel_rfl, rfl⟩
theorem predict_ok (X : GI) (hX : X.small) (ok : Ana.Ok2 X.g) (p bo j cs : Nat) (Ar : Option Addr) (lo : Fx.Own) (hj : j ≤ 1000) (S : ES) (hS : S.ok) (hl : S.es.length ≤ 90000) (hd : Int) (w : World) (h : St w (keysOf (setO S)) w (setO S) (KeepF (iCells p 62 (pCells X bo Ar (j + 1) cs) :: lo) :: prodT X bo :: [Bd X.xs, Sl 3 ruF X.Ar X.xs, Sl 1 strF X.An X.nts, Sl 1 strF X.At X.terms])) :
   Calls Try.prog 34 #[.pointer (some ⟨p, 0, none⟩), .pointer (some ⟨S.b, 0, none⟩), .int .i64 hd] w (Ret fun v w' => ∃ (T : PredR X S j hd) (ρ' : Facts), v = .tuple #[] ∧ St w (keysOf (setO S)) w' (setO T.1) ρ') := by
 have hnl := ok.nl
 have hxl : X.xs.length ≤ 20 := by have := ok.rl; rwa [show X.g.rules.length = X.xs.length from List.length_map ..] at this
 refine calls_fx (l := [.pointer (some ⟨p, 0, none⟩), .pointer (some ⟨S.b, 0, none⟩), .int .i64 hd]) Try.func34 rfl Try.ntmps34 (Nat.le_of_ble_eq_true rfl) h ?_
 refine c_seq ?_
 refine c_reg ?_
 refine l_q (by decide) (p_move rfl).q ?_
 refine l_q (by decide) (p_nilp rfl).q ?_
 first | refine l_q (by decide) (p_faddr (i := 0) 0 Try.underlying62 rfl inf_25 (by decide) rfl rfl).q ?_ | refine l_q (by decide) (p_faddro (i := 0) 0 Try.underlying62 rfl inf_25 (by decide) rfl rfl).q ?_
 first | refine l_q (by decide) (p_faddr (i := 3) 3 Try.underlying25 rfl inf_23 (by decide) rfl rfl).q ?_ | refine l_q (by decide) (p_faddro (i := 3) 3 Try.underlying25 rfl inf_23 (by decide) rfl rfl).q ?_
 refine l_q (by decide) (r_loadq (q := KeepF (iCells p 62 (pCells X bo Ar (j + 1) cs) :: lo)) Try.underlying23 rfl rfl (by repeat constructor) (fun w h => p_cell (h _ (List.mem_cons_self ..)) rfl)).q ?_
 refine l_q (by decide) (p_len_sl Try.underlying23 rfl).q ?_
 refine l_q (by decide) (p_move (v := .int .i64 ((0 : Nat) : Int)) rfl).q ?_
 refine l_nil ?_
 refine c_block ?_
 refine c_loop (S := Nat × Option Addr × Nat × Option Nat × List Im) (fun zs => zs.1 ≤ X.xs.length ∧ (ES.mk S.b zs.2.1 zs.2.2.1 zs.2.2.2.1 zs.2.2.2.2).ok ∧ Adds (PredQ X j hd zs.1) S.es zs.2.2.2.2 ∧ List.length zs.2.2.2.2 ≤ S.es.length + zs.1) (fun zs => X.xs.length - zs.1) (fun zs => [(0, .pointer (some ⟨p, 0, none⟩)), (1, .pointer (some ⟨S.b, 0, none⟩)), (2, .int .i64 hd), (12, .slice X.Ar X.xs.length X.cr), (13, .int .i64 (X.xs.length : Int)), (14, .int .i64 (zs.1 : Int))]) (fun zs => (setO (ES.mk S.b zs.2.1 zs.2.2.1 zs.2.2.2.1 zs.2.2.2.2))) (fun zs => (KeepF (iCells p 62 (pCells X bo Ar (j + 1) cs) :: lo) :: prodT X bo :: [Bd X.xs, Sl 3 ruF X.Ar X.xs, Sl 1 strF X.An X.nts, Sl 1 strF X.At X.terms])) (0, S.A, S.c, S.m, S.es) ?_ ?_ ?_ ?_ ?_
 · show (0) ≤ X.xs.length ∧ (ES.mk S.b (S.A) (S.c) (S.m) (S.es)).ok ∧ Adds (PredQ X j hd (0)) S.es (S.es) ∧ List.length (S.es) ≤ S.es.length + (0)
   exact ⟨Nat.zero_le _, hS, Adds.none _ (fun x h => by have := h.2; omega), Nat.le_refl _⟩
 · exact ⟨rfl, rfl, rfl, rfl, rfl, rfl, trivial⟩
 · exact .refl _
 · exact fun _ h => h
 rintro ⟨i, A, c, m, es⟩ hinv
 have hinv : i ≤ X.xs.length ∧ (ES.mk S.b A c m es).ok ∧ Adds (PredQ X j hd i) S.es es ∧ List.length es ≤ S.es.length + i := hinv
 obtain ⟨hi, hok, hA, hle⟩ := hinv
 show Cont _ _ _ _ [(0, .pointer (some ⟨p, 0, none⟩)), (1, .pointer (some ⟨S.b, 0, none⟩)), (2, .int .i64 hd), (12, .slice X.Ar X.xs.length X.cr), (13, .int .i64 (X.xs.length : Int)), (14, .int .i64 (i : Int))] ((setO (ES.mk S.b A c m es))) (KeepF (iCells p 62 (pCells X bo Ar (j + 1) cs) :: lo) :: prodT X bo :: [Bd X.xs, Sl 3 ruF X.Ar X.xs, Sl 1 strF X.An X.nts, Sl 1 strF X.At X.terms])
 refine c_seq ?_
 refine c_reg ?_
 first | refine l_q (by decide) (p_lss rfl rfl rfl rfl).q ?_ | refine l_q (by decide) (p_lssi rfl rfl).q ?_
 refine l_nil ?_
 refine c_seq ?_
 first | refine c_dec rfl (fun h15 => ?_) (fun h15 => ?_) | refine c_cond rfl (fun h15 => ?_) (fun h15 => ?_)
 ·skip
  obtain ⟨x, hx⟩ := at_some (l := X.xs) (n := i) (by omega)
  have hbl := ok.bl _ (rule_mem hx)
  refine c_skip ?_
  refine c_seq ?_
  refine c_block ?_
  refine c_seq ?_
  refine c_reg ?_
  refine l_q (by decide) (p_move rfl).q ?_
  first | refine l_q (by decide) (r_index Try.underlying23 inf_49 rfl rfl rfl (by first | exact .fact (by repeat constructor) | exact .own (by repeat constructor) (by decide) (fun _ => rfl) | exact SlIn.body (by repeat constructor) (by assumption)) rfl (by omega)).q ?_ | refine l_q (by decide) (r_index Try.underlying23 inf_49 rfl rfl rfl (by first | exact .fact (by repeat constructor) | exact .own (by repeat constructor) (by decide) (fun _ => rfl) | exact SlIn.body (by repeat constructor) (by assumption)) rfl (by decide)).q ?_ | refine l_q (by decide) (p_indexo Try.underlying23 inf_49 rfl rfl rfl (by omega)).q ?_
  first | refine l_q (by decide) (r_loada Try.underlying49 rfl inf_49 rfl (by first | exact .fact (by repeat constructor) | exact .own (by repeat constructor) (by decide) (fun _ => rfl) | exact SlIn.body (by repeat constructor) (by assumption)) (by assumption)).q ?_ | refine l_q (by decide) (r_loadow Try.underlying49 rfl inf_49 rfl (by repeat constructor) (by rfl)).q ?_ | refine l_q (by decide) (r_loadoa Try.underlying49 rfl inf_49 rfl (by repeat constructor) (by rfl) (fun j u h => h)).q ?_
  refine l_alloc (by decide) inf_49 _ rfl (fun b7 => ?_)
  refine l_q (by decide) (p_assign rfl).q ?_
  first | (refine l_storew inf_49 rfl rfl rfl rfl rfl ?_) | (refine l_perm (front1 _ _ _) ?_; refine l_storew inf_49 rfl rfl rfl rfl rfl ?_) | (refine l_perm (front2 _ _ _ _) ?_; refine l_storew inf_49 rfl rfl rfl rfl rfl ?_) | (refine l_perm (front3 _ _ _ _ _) ?_; refine l_storew inf_49 rfl rfl rfl rfl rfl ?_) | (refine l_perm (front4 _ _ _ _ _ _) ?_; refine l_storew inf_49 rfl rfl rfl rfl rfl ?_) | (refine l_storea inf_49 rfl rfl rfl rfl (by decide) ?_) | (refine l_perm (front1 _ _ _) ?_; refine l_storea inf_49 rfl rfl rfl rfl (by decide) ?_) | (refine l_perm (front2 _ _ _ _) ?_; refine l_storea inf_49 rfl rfl rfl rfl (by decide) ?_)
  refine l_nil ?_
  refine c_seq ?_
  refine c_reg ?_
  first | refine l_q (by decide) (p_faddr (i := 0) 0 Try.underlying49 rfl inf_3 (by decide) rfl rfl).q ?_ | refine l_q (by decide) (p_faddro (i := 0) 0 Try.underlying49 rfl inf_3 (by decide) rfl rfl).q ?_
  first | refine l_q (by decide) (r_loado Try.underlying3 rfl rfl (by repeat constructor) (by rfl)).q ?_ | refine l_q (by decide) (r_load1 Try.underlying3 rfl rfl (by first | exact .fact (by repeat constructor) | exact .own (by repeat constructor) (by decide) (fun _ => rfl) | exact SlIn.body (by repeat constructor) (by assumption)) (by first | assumption | rfl) (by rfl)).q ?_ | refine l_q (by decide) (r_loadf Try.underlying3 rfl rfl (by first | exact .fact (by repeat constructor) | exact .own (by repeat constructor) (by decide) (fun _ => rfl) | exact SlIn.body (by repeat constructor) (by assumption)) (by assumption) (by rfl)).q ?_
  refine l_q (by decide) (p_move rfl).q ?_
  first | refine l_q (by decide) (p_eql rfl rfl rfl rfl).q ?_ | refine l_q (by decide) (p_eqli rfl rfl).q ?_
  refine l_q (by decide) (p_move rfl).q ?_
  first | refine l_splitd (t := 23) rfl (fun h23 => ?_) (fun h23 => ?_) | refine l_splitb (t := 23) rfl (fun h23 => ?_) (fun h23 => ?_)
  ·skip
   refine l_g (j := 4) rfl rfl (by decide) (p_move rfl).q ?_
   first | refine l_g (j := 4) rfl rfl (by decide) (r_loada Try.underlying49 rfl inf_49 rfl (by first | exact .fact (by repeat constructor) | exact .own (by repeat constructor) (by decide) (fun _ => rfl) | exact SlIn.body (by repeat constructor) (by assumption)) (by assumption)).q ?_ | refine l_g (j := 4) rfl rfl (by decide) (r_loadow Try.underlying49 rfl inf_49 rfl (by repeat constructor) (by rfl)).q ?_ | refine l_g (j := 4) rfl rfl (by decide) (r_loadoa Try.underlying49 rfl inf_49 rfl (by repeat constructor) (by rfl) (fun j u h => h)).q ?_
   refine l_g (j := 4) rfl rfl (by decide) (q_call call_43 rfl (fun w hs => works_ok X p bo (j + 1) cs Ar (by omega) x (by omega) (fun y hy h0 => ok.nt_lt (rule_mem hx) hy h0) w ((hs.facts (KeepF (iCells p 62 (pCells X bo Ar (j + 1) cs) :: lo)) (by repeat constructor)).1 _ (List.mem_cons_self ..)) (hs.facts (prodT X bo) (by repeat constructor)).1 ((hs.facts (Bd X.xs) (by repeat constructor)).1 i x hx))) ?_
   refine l_q (by decide) (p_pick rfl rfl).q ?_
   refine l_nil ?_
   first | refine c_dec rfl (fun h27 => ?_) (fun h27 => ?_) | refine c_cond rfl (fun h27 => ?_) (fun h27 => ?_)
   ·skip
    refine c_reg ?_
    refine l_q (by decide) (p_move rfl).q ?_
    refine l_q (by decide) (p_move rfl).q ?_
    refine l_q (by decide) (p_move rfl).q ?_
    refine l_q (by decide) (p_nilp rfl).q ?_
    first | refine l_q (by decide) (p_faddr (i := 2) 5 Try.underlying62 rfl inf_60 (by decide) rfl rfl).q ?_ | refine l_q (by decide) (p_faddro (i := 2) 5 Try.underlying62 rfl inf_60 (by decide) rfl rfl).q ?_
    refine l_q (by decide) (r_loadq (q := KeepF (iCells p 62 (pCells X bo Ar (j + 1) cs) :: lo)) Try.underlying60 rfl rfl (by repeat constructor) (fun w h => p_cell (h _ (List.mem_cons_self ..)) rfl)).q ?_
    refine l_q (by decide) (p_len_sl Try.underlying60 rfl).q ?_
    first | refine l_q (by decide) (p_sub (j := 1) rfl rfl rfl rfl (by omega) (by show _ ≤ (9223372036854775807 : Nat); omega)).q ?_ | refine l_q (by decide) (p_subi rfl rfl (by show (-9223372036854775808 : Int) ≤ _; omega) (by show _ ≤ ((9223372036854775807 : Nat) : Int); omega)).q ?_
    refine l_q (by decide) (((p_build (cells := #[_, _, _]) inf_52 pl_52 rfl rfl)).to (u := imK ⟨i, 0, j⟩) (rfl)).q ?_
    refine l_perm (List.perm_append_comm (l₁ := [_])) ?_
    refine l_callo (τ := setO ⟨S.b, A, c, m, es⟩) (fun _ : Option Addr × Nat × Nat => .tuple #[]) (fun y => setO (ES.add ⟨S.b, A, c, m, es⟩ ⟨i, 0, j⟩ y)) (by decide) call_44 rfl (fun w hs => add_ok ⟨S.b, A, c, m, es⟩ hok ⟨i, 0, j⟩ (by show es.length ≤ _; omega) _ w hs) (fun y => ?_)
    obtain ⟨A2, c2, m2⟩ := y
    refine l_nil ?_
    refine c_reg ?_
    first | refine l_q (by decide) (p_add (j := 1) rfl rfl rfl rfl (by show _ ≤ (9223372036854775807 : Nat); omega)).q ?_ | refine l_q (by decide) (p_addi rfl rfl (by show (-9223372036854775808 : Int) ≤ _; omega) (by show _ ≤ ((9223372036854775807 : Nat) : Int); omega)).q ?_
    refine l_q (by decide) (p_move rfl).q ?_
    refine l_nil ?_
    refine c_perm (List.perm_append_comm (l₂ := [_])) ?_
    refine c_drop ?_
    refine c_join ((i + 1), (A2), (c2), (some m2), (ins es ⟨i, 0, j⟩)) ?_ ?_ ?_ ?_
    ·show ((i + 1) ≤ X.xs.length ∧ (ES.mk S.b (A2) (c2) (some m2) (ins es ⟨i, 0, j⟩)).ok ∧ Adds (PredQ X j hd (i + 1)) S.es (ins es ⟨i, 0, j⟩) ∧ List.length (ins es ⟨i, 0, j⟩) ≤ S.es.length + (i + 1)) ∧ X.xs.length - (i + 1) < X.xs.length - i
     refine ⟨⟨by omega, fun h => (by cases h), hA.step (predQ_yes hx h23 h27) (fun y h => predQ_old h) (fun y hy => predQ_new hy), ?_⟩, by omega⟩
     have := ins_len es ⟨i, 0, j⟩; omega
    · exact ⟨rfl, rfl, rfl, rfl, rfl, rfl, trivial⟩
    ·show List.Perm _ ((setO (ES.mk S.b (A2) (c2) (some m2) (ins es ⟨i, 0, j⟩))))
     exact .refl _
    · exact fun _ h => h
   ·skip
    refine c_skip ?_
    refine c_reg ?_
    first | refine l_q (by decide) (p_add (j := 1) rfl rfl rfl rfl (by show _ ≤ (9223372036854775807 : Nat); omega)).q ?_ | refine l_q (by decide) (p_addi rfl rfl (by show (-9223372036854775808 : Int) ≤ _; omega) (by show _ ≤ ((9223372036854775807 : Nat) : Int); omega)).q ?_
    refine l_q (by decide) (p_move rfl).q ?_
    refine l_nil ?_
    refine c_drop ?_
    refine c_join ((i + 1), (A), (c), (m), (es)) ?_ ?_ ?_ ?_
    ·show ((i + 1) ≤ X.xs.length ∧ (ES.mk S.b (A) (c) (m) (es)).ok ∧ Adds (PredQ X j hd (i + 1)) S.es (es) ∧ List.length (es) ≤ S.es.length + (i + 1)) ∧ X.xs.length - (i + 1) < X.xs.length - i
     exact ⟨⟨by omega, hok, hA.sub (fun x h => predQ_old h) (fun y hy => .inl (predQ_no hx (fun hh => by have := hh.2; rw [this] at h27; cases h27) hy)), by omega⟩, by omega⟩
    · exact ⟨rfl, rfl, rfl, rfl, rfl, rfl, trivial⟩
    ·show List.Perm _ ((setO (ES.mk S.b (A) (c) (m) (es))))
     exact .refl _
    · exact fun _ h => h
  ·skip
   refine l_off (j := 4) rfl rfl (by first | (simp; done) | (simp [undef]; done)) (by decide) ?_
   refine l_off (j := 4) rfl rfl (by first | (simp; done) | (simp [undef]; done)) (by decide) ?_
   refine l_off (j := 4) rfl rfl (by first | (simp; done) | (simp [undef]; done)) (by decide) ?_
   refine l_q (by decide) (p_pick rfl rfl).q ?_
   refine l_nil ?_
   refine c_false rfl ?_
   refine c_skip ?_
   refine c_reg ?_
   first | refine l_q (by decide) (p_add (j := 1) rfl rfl rfl rfl (by show _ ≤ (9223372036854775807 : Nat); omega)).q ?_ | refine l_q (by decide) (p_addi rfl rfl (by show (-9223372036854775808 : Int) ≤ _; omega) (by show _ ≤ ((9223372036854775807 : Nat) : Int); omega)).q ?_
   refine l_q (by decide) (p_move rfl).q ?_
   refine l_nil ?_
   refine c_drop ?_
   refine c_join ((i + 1), (A), (c), (m), (es)) ?_ ?_ ?_ ?_
   ·show ((i + 1) ≤ X.xs.length ∧ (ES.mk S.b (A) (c) (m) (es)).ok ∧ Adds (PredQ X j hd (i + 1)) S.es (es) ∧ List.length (es) ≤ S.es.length + (i + 1)) ∧ X.xs.length - (i + 1) < X.xs.length - i
    exact ⟨⟨by omega, hok, hA.sub (fun x h => predQ_old h) (fun y hy => .inl (predQ_no hx (fun hh => h23 hh.1) hy)), by omega⟩, by omega⟩
   · exact ⟨rfl, rfl, rfl, rfl, rfl, rfl, trivial⟩
   ·show List.Perm _ ((setO (ES.mk S.b (A) (c) (m) (es))))
    exact .refl _
   · exact fun _ h => h
 ·skip
  refine c_exit ?_
  refine c_here ?_
  refine c_ret0 rfl (fun w hs => ?_)
  exact ⟨⟨ES.mk S.b A c m es, rfl, hok, hA.sub (fun x h => h.1) (fun y hy => .inl ⟨hy, by obtain ⟨q, h1, _⟩ := hy; have := (List.getElem?_eq_some_iff.1 h1).1; rw [show X.g.rules.length = X.xs.length from List.length_map ..] at this; omega⟩), by show es.length ≤ _; omega⟩, _, rfl, hs⟩
end Go.Proofs.Ytncagpppmaehhaa
