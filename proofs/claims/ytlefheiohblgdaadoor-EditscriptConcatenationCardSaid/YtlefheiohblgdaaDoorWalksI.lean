/- The walks of edit scripts, ninth part; conditions: lengths. -/
import Derived.Test.YtlefheiohblgdaaDoorWalksH
namespace Go.Proofs.YtlefheiohblgdaaDoor
open Go Go.Fx Go.Proofs

abbrev AlR (w w' : World) (v : Value) (r : List Ed.Op × Int) : Prop := ∃ x : Option Addr × Nat, v = .tuple #[.slice x.1 r.1.length x.2, .int .i64 r.2] ∧ Sl 2 opF x.1 r.1 w' ∧ Dep w.heap.size w'.heap.size (Sl 2 opF x.1 r.1) ∧ Ext [] w w'
theorem al_none {w w' : World} {e : Int} (h : Ext [] w w') : AlR w w' (.tuple #[.slice none 0 0, .int .i64 e]) ([], e) := ⟨(none, 0), rfl, Sl.nil _ _ _ _, fun _ w2 _ _ => Sl.nil _ _ _ w2, h⟩
theorem align_ok (X : Inp) (hX : X.small) (w : World) (hM : X.mem w) (hO : Ed.Okin X.pl) (hn : X.xs.length ≤ 1000) (C : Option Addr) (e : Nat) (y : List Int) (hl : y.length ≤ 1000) (hY : Sl 1 intF C y w) :
   Calls Tryd.prog 21 #[.agg #[.slice X.A X.xs.length X.c, .slice X.B X.ins.length X.d, .int .i64 X.sw], .slice C y.length e] w (Ret fun v w' => AlR w w' v (alg X y)) := by
 refine calls_fx (l := [.agg #[.slice X.A X.xs.length X.c, .slice X.B X.ins.length X.d, .int .i64 X.sw], .slice C y.length e]) Tryd.func21 rfl Tryd.ntmps21 (Nat.le_of_ble_eq_true rfl) ((X.start hM).old hY (dep_sl (by decide) hY)) ?_
 refine c_seq ?_
 refine c_reg ?_
 refine l_box (by decide) rfl _ rfl (fun b2 => ?_)
 refine l_q (by decide) (p_assign rfl).q ?_
 refine l_q (by decide) (p_assign (v := .int .i64 ((0 : Nat) : Int)) rfl).q ?_
 refine l_nil ?_
 refine c_seq ?_
 refine c_seq ?_
 refine c_reg ?_
 first | refine l_q (by decide) (r_loada Tryd.underlying25 rfl inf_25 rfl (by first | exact .fact (by repeat constructor) | exact .own (by repeat constructor) (by decide) (fun _ => rfl) | exact SlIn.reads (by repeat constructor) (by assumption) | exact SlIn.tab1 (by repeat constructor) | exact SlIn.tab2 (by repeat constructor) (by assumption)) (by assumption)).q ?_ | refine l_q (by decide) (r_loadow Tryd.underlying25 rfl inf_25 rfl (by repeat constructor) (by rfl)).q ?_ | refine l_q (by decide) (r_loadoa Tryd.underlying25 rfl inf_25 rfl (by repeat constructor) (by rfl) (fun j u h => h)).q ?_
 refine l_q (by decide) (p_move rfl).q ?_
 refine l_q (by decide) (q_call call_30 rfl (fun w hs => proper_ok X hX w (X.of hs (by repeat constructor) (by repeat constructor) (by repeat constructor)) C e y (by omega) (hs.facts (Sl 1 intF C y) (by repeat constructor)).1)) ?_
 first | refine l_q (by decide) (p_notd rfl).q ?_ | refine l_q (by decide) (p_not rfl).q ?_
 refine l_nil ?_
 first | refine c_dec rfl (fun h15 => ?_) (fun h15 => ?_) | refine c_cond rfl (fun h15 => ?_) (fun h15 => ?_)
 ·skip
  refine c_seq ?_
  refine c_reg ?_
  refine l_q (by decide) (p_assign rfl).q ?_
  refine l_q (by decide) (p_assign (v := .int .i64 ((1 : Nat) : Int)) rfl).q ?_
  refine l_nil ?_
  refine c_ret ?_
  refine c_ret2 rfl rfl rfl (fun w hs => ?_)
  exact (by rw [alg_no (fun h => by rw [dec_true (p := ∀ t, t ∈ y → 0 ≤ t ∧ t < (X.ins.length : Int)) h] at h15; cases h15)]; exact al_none hs.ext)
 ·skip
  refine c_skip ?_
  refine c_seq ?_
  refine c_reg ?_
  first | refine l_q (by decide) (r_loada Tryd.underlying25 rfl inf_25 rfl (by first | exact .fact (by repeat constructor) | exact .own (by repeat constructor) (by decide) (fun _ => rfl) | exact SlIn.reads (by repeat constructor) (by assumption) | exact SlIn.tab1 (by repeat constructor) | exact SlIn.tab2 (by repeat constructor) (by assumption)) (by assumption)).q ?_ | refine l_q (by decide) (r_loadow Tryd.underlying25 rfl inf_25 rfl (by repeat constructor) (by rfl)).q ?_ | refine l_q (by decide) (r_loadoa Tryd.underlying25 rfl inf_25 rfl (by repeat constructor) (by rfl) (fun j u h => h)).q ?_
  refine l_q (by decide) (p_move rfl).q ?_
  have hy : Prp X y := of_dec (p := ∀ t, t ∈ y → 0 ≤ t ∧ t < (X.ins.length : Int)) (by simpa using h15)
  refine l_call (X := TblL X y) (fun x => .slice x.2.A x.2.hds.length x.2.c) (fun x => TabF x.1 x.2) (by decide) call_31 rfl (fun w hs => table_ok2 X hX w (X.of hs (by repeat constructor) (by repeat constructor) (by repeat constructor)) hO hn C e y hl (hs.facts (Sl 1 intF C y) (by repeat constructor)).1 hy) (fun x18 => ?_)
  obtain ⟨h0, hh0⟩ := at_some (l := x18.2.hds) (n := 0) (by rw [x18.2.len]; omega)
  have hlx := x18.2.len
  have hlr := rowC_len X y 0
  have hr0 := rowC_at (X := X) (y := y) (a := 0) (b := 0) (Nat.zero_le _)
  refine l_q (by decide) (p_assign rfl).q ?_
  refine l_nil ?_
  refine c_seq ?_
  refine c_seq ?_
  refine c_reg ?_
  refine l_q (by decide) (p_move rfl).q ?_
  first | refine l_q (by decide) (r_index (j := 0) Tryd.underlying57 inf_23 rfl rfl rfl (by first | exact .fact (by repeat constructor) | exact .own (by repeat constructor) (by decide) (fun _ => rfl) | exact SlIn.reads (by repeat constructor) (by assumption) | exact SlIn.tab1 (by repeat constructor) | exact SlIn.tab2 (by repeat constructor) (by assumption)) rfl (by omega)).q ?_ | refine l_q (by decide) (r_index (j := 0) Tryd.underlying57 inf_23 rfl rfl rfl (by first | exact .fact (by repeat constructor) | exact .own (by repeat constructor) (by decide) (fun _ => rfl) | exact SlIn.reads (by repeat constructor) (by assumption) | exact SlIn.tab1 (by repeat constructor) | exact SlIn.tab2 (by repeat constructor) (by assumption)) rfl (by decide)).q ?_ | refine l_q (by decide) (p_indexo (j := 0) Tryd.underlying57 inf_23 rfl rfl rfl (by omega)).q ?_
  first | refine l_q (by decide) (((r_loado Tryd.underlying23 rfl rfl (by repeat constructor) (by rfl))).to (u := .slice h0.1 (rowC X y 0).length h0.2.2) (by rw [rowC_len, x18.2.hd 0 h0 hh0])).q ?_ | refine l_q (by decide) (((r_load1 Tryd.underlying23 rfl rfl (by first | exact .fact (by repeat constructor) | exact .own (by repeat constructor) (by decide) (fun _ => rfl) | exact SlIn.reads (by repeat constructor) (by assumption) | exact SlIn.tab1 (by repeat constructor) | exact SlIn.tab2 (by repeat constructor) (by assumption)) (by first | assumption | rfl) (by rfl))).to (u := .slice h0.1 (rowC X y 0).length h0.2.2) (by rw [rowC_len, x18.2.hd 0 h0 hh0])).q ?_ | refine l_q (by decide) (((r_loadf Tryd.underlying23 rfl rfl (by first | exact .fact (by repeat constructor) | exact .own (by repeat constructor) (by decide) (fun _ => rfl) | exact SlIn.reads (by repeat constructor) (by assumption) | exact SlIn.tab1 (by repeat constructor) | exact SlIn.tab2 (by repeat constructor) (by assumption)) (by assumption) (by rfl))).to (u := .slice h0.1 (rowC X y 0).length h0.2.2) (by rw [rowC_len, x18.2.hd 0 h0 hh0])).q ?_
  first | refine l_q (by decide) (r_index (j := 0) Tryd.underlying23 inf_3 rfl rfl rfl (by first | exact .fact (by repeat constructor) | exact .own (by repeat constructor) (by decide) (fun _ => rfl) | exact SlIn.reads (by repeat constructor) (by assumption) | exact SlIn.tab1 (by repeat constructor) | exact SlIn.tab2 (by repeat constructor) (by assumption)) rfl (by omega)).q ?_ | refine l_q (by decide) (r_index (j := 0) Tryd.underlying23 inf_3 rfl rfl rfl (by first | exact .fact (by repeat constructor) | exact .own (by repeat constructor) (by decide) (fun _ => rfl) | exact SlIn.reads (by repeat constructor) (by assumption) | exact SlIn.tab1 (by repeat constructor) | exact SlIn.tab2 (by repeat constructor) (by assumption)) rfl (by decide)).q ?_ | refine l_q (by decide) (p_indexo (j := 0) Tryd.underlying23 inf_3 rfl rfl rfl (by omega)).q ?_
  first | refine l_q (by decide) (r_loado Tryd.underlying3 rfl rfl (by repeat constructor) (by rfl)).q ?_ | refine l_q (by decide) (r_load1 Tryd.underlying3 rfl rfl (by first | exact .fact (by repeat constructor) | exact .own (by repeat constructor) (by decide) (fun _ => rfl) | exact SlIn.reads (by repeat constructor) (by assumption) | exact SlIn.tab1 (by repeat constructor) | exact SlIn.tab2 (by repeat constructor) (by assumption)) (by first | assumption | rfl) (by rfl)).q ?_ | refine l_q (by decide) (r_loadf Tryd.underlying3 rfl rfl (by first | exact .fact (by repeat constructor) | exact .own (by repeat constructor) (by decide) (fun _ => rfl) | exact SlIn.reads (by repeat constructor) (by assumption) | exact SlIn.tab1 (by repeat constructor) | exact SlIn.tab2 (by repeat constructor) (by assumption)) (by assumption) (by rfl)).q ?_
  first | refine l_q (by decide) (p_geq (j := 1099511627776) rfl rfl rfl rfl).q ?_ | refine l_q (by decide) (p_geqi rfl rfl).q ?_
  refine l_nil ?_
  first | refine c_dec rfl (fun h24 => ?_) (fun h24 => ?_) | refine c_cond rfl (fun h24 => ?_) (fun h24 => ?_)
  ·skip
   have hlt : ¬ Ed.C X.pl 0 y < 1099511627776 := by have h24 : Ed.C X.pl 0 (y.drop 0) ≥ 1099511627776 := h24; rw [List.drop_zero] at h24; omega
   refine c_seq ?_
   refine c_reg ?_
   refine l_q (by decide) (p_assign rfl).q ?_
   refine l_q (by decide) (p_assign (v := .int .i64 ((6 : Nat) : Int)) rfl).q ?_
   refine l_nil ?_
   refine c_ret ?_
   refine c_ret2 rfl rfl rfl (fun w hs => ?_)
   exact (by rw [alg_far hy (by omega)]; exact al_none hs.ext)
  ·skip
   have hlt : Ed.C X.pl 0 y < 1099511627776 := by have h24 : ¬ Ed.C X.pl 0 (y.drop 0) ≥ 1099511627776 := h24; rw [List.drop_zero] at h24; omega
   refine c_skip ?_
   refine c_seq ?_
   refine c_reg ?_
   refine l_q (by decide) (p_assign rfl).q ?_
   refine l_nil ?_
   refine c_seq ?_
   refine c_seq ?_
   refine c_reg ?_
   refine l_q (by decide) (p_assign (v := .int .i64 ((0 : Nat) : Int)) rfl).q ?_
   refine l_q (by decide) (p_assign (v := .int .i64 ((0 : Nat) : Int)) rfl).q ?_
   refine l_nil ?_
   refine c_block ?_
   refine c_sl0 46 2 opF ?_
   refine c_loop (S := Nat × Nat × List Ed.Op × Option Addr × Nat) (fun zs => AlgI X y zs.2.2.1 zs.1 zs.2.1) (fun zs => (X.xs.length - zs.1) + (y.length - zs.2.1)) (fun zs => [(1, .slice C y.length e), (2, .pointer (some ⟨b2, 0, none⟩)), (6, .slice x18.2.A x18.2.hds.length x18.2.c), (7, .slice zs.2.2.2.1 zs.2.2.1.length zs.2.2.2.2), (8, .int .i64 (zs.1 : Int)), (9, .int .i64 (zs.2.1 : Int))]) (fun zs => [iSl 46 2 opF zs.2.2.2.1 zs.2.2.2.2 zs.2.2.1, iCells b2 25 [.slice X.A X.xs.length X.c, .slice X.B X.ins.length X.d, .int .i64 X.sw]]) (fun zs => (TabF x18.1 x18.2 :: (Sl 1 intF C y :: [Rd X.xs, Sl 1 intF X.B X.ins, Sl 3 colF X.A X.xs]))) (0, 0, [], none, 0) ?_ ?_ ?_ ?_ ?_
   · show AlgI X y ([]) (0) (0)
     exact ⟨Nat.zero_le _, Nat.zero_le _, hlt, rfl, Nat.le_refl _⟩
   · exact ⟨rfl, rfl, rfl, rfl, rfl, rfl, trivial⟩
   · exact .refl _
   · exact fun _ h => h
   rintro ⟨i, j, o, A1, d1⟩ hinv
   have hinv : AlgI X y o i j := hinv
   have hA := hinv
   show Cont _ _ _ _ [(1, .slice C y.length e), (2, .pointer (some ⟨b2, 0, none⟩)), (6, .slice x18.2.A x18.2.hds.length x18.2.c), (7, .slice A1 o.length d1), (8, .int .i64 (i : Int)), (9, .int .i64 (j : Int))] ([iSl 46 2 opF A1 d1 o, iCells b2 25 [.slice X.A X.xs.length X.c, .slice X.B X.ins.length X.d, .int .i64 X.sw]]) (TabF x18.1 x18.2 :: (Sl 1 intF C y :: [Rd X.xs, Sl 1 intF X.B X.ins, Sl 3 colF X.A X.xs]))
   refine c_seq ?_
   refine c_seq ?_
   refine c_meetn (S := Unit) (fun zs => True) (fun zs => [(1, .slice C y.length e), (2, .pointer (some ⟨b2, 0, none⟩)), (6, .slice x18.2.A x18.2.hds.length x18.2.c), (7, .slice A1 o.length d1), (8, .int .i64 (i : Int)), (9, .int .i64 (j : Int)), (35, .bool (decide (i < X.xs.length ∨ j < y.length)))]) (fun zs => [iSl 46 2 opF A1 d1 o, iCells b2 25 [.slice X.A X.xs.length X.c, .slice X.B X.ins.length X.d, .int .i64 X.sw]]) (fun zs => (TabF x18.1 x18.2 :: (Sl 1 intF C y :: [Rd X.xs, Sl 1 intF X.B X.ins, Sl 3 colF X.A X.xs]))) ?_ ?_
   ·skip
    refine c_reg ?_
    refine l_q (by decide) (p_move rfl).q ?_
    first | refine l_q (by decide) (p_faddr (i := 0) 0 Tryd.underlying25 rfl inf_22 (by decide) rfl rfl).q ?_ | refine l_q (by decide) (p_faddro (i := 0) 0 Tryd.underlying25 rfl inf_22 (by decide) rfl rfl).q ?_
    first | refine l_q (by decide) (r_loado Tryd.underlying22 rfl rfl (by repeat constructor) (by rfl)).q ?_ | refine l_q (by decide) (r_load1 Tryd.underlying22 rfl rfl (by first | exact .fact (by repeat constructor) | exact .own (by repeat constructor) (by decide) (fun _ => rfl) | exact SlIn.reads (by repeat constructor) (by assumption) | exact SlIn.tab1 (by repeat constructor) | exact SlIn.tab2 (by repeat constructor) (by assumption)) (by first | assumption | rfl) (by rfl)).q ?_ | refine l_q (by decide) (r_loadf Tryd.underlying22 rfl rfl (by first | exact .fact (by repeat constructor) | exact .own (by repeat constructor) (by decide) (fun _ => rfl) | exact SlIn.reads (by repeat constructor) (by assumption) | exact SlIn.tab1 (by repeat constructor) | exact SlIn.tab2 (by repeat constructor) (by assumption)) (by assumption) (by rfl)).q ?_
    refine l_q (by decide) (p_len_sl Tryd.underlying22 rfl).q ?_
    first | refine l_q (by decide) (p_lss rfl rfl rfl rfl).q ?_ | refine l_q (by decide) (p_lssi rfl rfl).q ?_
    refine l_q (by decide) (p_move rfl).q ?_
    first | refine l_splitd (t := 30) rfl (fun h30 => ?_) (fun h30 => ?_) | refine l_splitb (t := 30) rfl (fun h30 => ?_) (fun h30 => ?_)
    ·skip
     refine l_off (j := 5) rfl rfl (by first | (simp; done) | (simp [undef]; done)) (by decide) ?_
     refine l_off (j := 5) rfl rfl (by first | (simp; done) | (simp [undef]; done)) (by decide) ?_
     refine l_off (j := 5) rfl rfl (by first | (simp; done) | (simp [undef]; done)) (by decide) ?_
     refine l_off (j := 5) rfl rfl (by first | (simp; done) | (simp [undef]; done)) (by decide) ?_
     refine l_q (by decide) (p_pick rfl rfl).q ?_
     refine l_nil ?_
     refine c_join (()) ?inv ?sub ?perm ?facts
     case sub => exact ⟨rfl, rfl, rfl, rfl, rfl, rfl, (by first | rfl | exact congrArg (fun b => some (Value.bool b)) (decide_eq_true (by omega)).symm | exact congrArg (fun b => some (Value.bool b)) (decide_eq_false (by omega)).symm | exact congrArg (fun b => some (Value.bool b)) (decide_eq_decide.2 (by omega))), trivial⟩
     case perm =>
      exact .refl _
     case facts => exact fun _ h => h
     case inv =>
      trivial
    ·skip
     refine l_g (j := 5) rfl rfl (by decide) (p_move rfl).q ?_
     refine l_g (j := 5) rfl rfl (by decide) (p_move rfl).q ?_
     refine l_g (j := 5) rfl rfl (by decide) (p_len_sl Tryd.underlying23 rfl).q ?_
     first | refine l_g (j := 5) rfl rfl (by decide) (p_lss rfl rfl rfl rfl).q ?_ | refine l_g (j := 5) rfl rfl (by decide) (p_lssi rfl rfl).q ?_
     refine l_q (by decide) (p_pick rfl rfl).q ?_
     refine l_nil ?_
     refine c_join (()) ?inv ?sub ?perm ?facts
     case sub => exact ⟨rfl, rfl, rfl, rfl, rfl, rfl, (by first | rfl | exact congrArg (fun b => some (Value.bool b)) (decide_eq_true (by omega)).symm | exact congrArg (fun b => some (Value.bool b)) (decide_eq_false (by omega)).symm | exact congrArg (fun b => some (Value.bool b)) (decide_eq_decide.2 (by omega))), trivial⟩
     case perm =>
      exact .refl _
     case facts => exact fun _ h => h
     case inv =>
      trivial
   rintro uu hmeet
   show Cont _ _ _ _ [(1, .slice C y.length e), (2, .pointer (some ⟨b2, 0, none⟩)), (6, .slice x18.2.A x18.2.hds.length x18.2.c), (7, .slice A1 o.length d1), (8, .int .i64 (i : Int)), (9, .int .i64 (j : Int)), (35, .bool (decide (i < X.xs.length ∨ j < y.length)))] ([iSl 46 2 opF A1 d1 o, iCells b2 25 [.slice X.A X.xs.length X.c, .slice X.B X.ins.length X.d, .int .i64 X.sw]]) (TabF x18.1 x18.2 :: (Sl 1 intF C y :: [Rd X.xs, Sl 1 intF X.B X.ins, Sl 3 colF X.A X.xs]))
   first | refine c_dec rfl (fun h35 => ?_) (fun h35 => ?_) | refine c_cond rfl (fun h35 => ?_) (fun h35 => ?_)
   ·skip
    refine c_skip ?_
    refine c_block ?_
    refine c_seq ?_
    refine c_reg ?_
    first | refine l_q (by decide) (r_loada Tryd.underlying25 rfl inf_25 rfl (by first | exact .fact (by repeat constructor) | exact .own (by repeat constructor) (by decide) (fun _ => rfl) | exact SlIn.reads (by repeat constructor) (by assumption) | exact SlIn.tab1 (by repeat constructor) | exact SlIn.tab2 (by repeat constructor) (by assumption)) (by assumption)).q ?_ | refine l_q (by decide) (r_loadow Tryd.underlying25 rfl inf_25 rfl (by repeat constructor) (by rfl)).q ?_ | refine l_q (by decide) (r_loadoa Tryd.underlying25 rfl inf_25 rfl (by repeat constructor) (by rfl) (fun j u h => h)).q ?_
    refine l_q (by decide) (p_move rfl).q ?_
    refine l_q (by decide) (p_move rfl).q ?_
    refine l_q (by decide) (p_move rfl).q ?_
    refine l_call (X := Option Addr × Nat) (fun x => .slice x.1 (Ed.steps X.pl i (y.drop j)).length x.2) (fun x => Sl 5 stpF x.1 (Ed.steps X.pl i (y.drop j))) (by decide) call_35 rfl (fun w hs => steps_ok X hX w (X.of hs (by repeat constructor) (by repeat constructor) (by repeat constructor)) hO C e y (by omega) (hs.facts (Sl 1 intF C y) (by repeat constructor)).1 hy i j hA.hi hA.hj) (fun x40 => ?_)
    refine l_q (by decide) (p_len_sl Tryd.underlying61 rfl).q ?_
    refine l_q (by decide) (p_move (v := .int .i64 ((0 : Nat) : Int)) rfl).q ?_
    refine l_nil ?_
    refine c_block ?_
    refine c_loop (S := Nat) (fun zs => zs ≤ (Ed.steps X.pl i (y.drop j)).length ∧ ∀ s, s ∈ (Ed.steps X.pl i (y.drop j)).take zs → Ed.good X.pl i (y.drop j) s = false) (fun zs => (Ed.steps X.pl i (y.drop j)).length - zs) (fun zs => [(1, .slice C y.length e), (2, .pointer (some ⟨b2, 0, none⟩)), (6, .slice x18.2.A x18.2.hds.length x18.2.c), (7, .slice A1 o.length d1), (8, .int .i64 (i : Int)), (9, .int .i64 (j : Int)), (40, .slice x40.1 (Ed.steps X.pl i (y.drop j)).length x40.2), (41, .int .i64 ((Ed.steps X.pl i (y.drop j)).length : Int)), (42, .int .i64 (zs : Int))]) (fun zs => [iSl 46 2 opF A1 d1 o, iCells b2 25 [.slice X.A X.xs.length X.c, .slice X.B X.ins.length X.d, .int .i64 X.sw]]) (fun zs => (Sl 5 stpF x40.1 (Ed.steps X.pl i (y.drop j)) :: (TabF x18.1 x18.2 :: (Sl 1 intF C y :: [Rd X.xs, Sl 1 intF X.B X.ins, Sl 3 colF X.A X.xs])))) (0) ?_ ?_ ?_ ?_ ?_
    · show (0) ≤ (Ed.steps X.pl i (y.drop j)).length ∧ ∀ s, s ∈ (Ed.steps X.pl i (y.drop j)).take (0) → Ed.good X.pl i (y.drop j) s = false
      exact ⟨Nat.zero_le _, fun s h => absurd h (by simp)⟩
    · exact ⟨rfl, rfl, rfl, rfl, rfl, rfl, rfl, rfl, rfl, trivial⟩
    · exact .refl _
    · exact fun _ h => h
    rintro k hinv
    have hinv : k ≤ (Ed.steps X.pl i (y.drop j)).length ∧ ∀ s, s ∈ (Ed.steps X.pl i (y.drop j)).take k → Ed.good X.pl i (y.drop j) s = false := hinv
    obtain ⟨hk, hbad⟩ := hinv
    show Cont _ _ _ _ [(1, .slice C y.length e), (2, .pointer (some ⟨b2, 0, none⟩)), (6, .slice x18.2.A x18.2.hds.length x18.2.c), (7, .slice A1 o.length d1), (8, .int .i64 (i : Int)), (9, .int .i64 (j : Int)), (40, .slice x40.1 (Ed.steps X.pl i (y.drop j)).length x40.2), (41, .int .i64 ((Ed.steps X.pl i (y.drop j)).length : Int)), (42, .int .i64 (k : Int))] ([iSl 46 2 opF A1 d1 o, iCells b2 25 [.slice X.A X.xs.length X.c, .slice X.B X.ins.length X.d, .int .i64 X.sw]]) (Sl 5 stpF x40.1 (Ed.steps X.pl i (y.drop j)) :: (TabF x18.1 x18.2 :: (Sl 1 intF C y :: [Rd X.xs, Sl 1 intF X.B X.ins, Sl 3 colF X.A X.xs])))
    refine c_seq ?_
    refine c_reg ?_
    first | refine l_q (by decide) (p_lss rfl rfl rfl rfl).q ?_ | refine l_q (by decide) (p_lssi rfl rfl).q ?_
    refine l_nil ?_
    refine c_seq ?_
    first | refine c_dec rfl (fun h43 => ?_) (fun h43 => ?_) | refine c_cond rfl (fun h43 => ?_) (fun h43 => ?_)
    ·skip
     have hsl := steps_len X.pl i (y.drop j)
     have hAi := hA.hi
     have hAj := hA.hj
     obtain ⟨s, hs⟩ := at_some (l := Ed.steps X.pl i (y.drop j)) (n := k) (by omega)
     have hso := step_ok2 hO hA.hi hA.hj hs
     obtain ⟨h1, hh1⟩ := at_some (l := x18.2.hds) (n := i + s.tok) (by omega)
     obtain ⟨h2, hh2⟩ := at_some (l := x18.2.hds) (n := i) (by omega)
     have hr1 := rowC_at (X := X) (y := y) (a := i + s.tok) (b := j + s.emi) hso.2.1
     have hr2 := rowC_at (X := X) (y := y) (a := i) (b := j) hA.hj
     have hl1 := rowC_len X y (i + s.tok)
     have hl2 := rowC_len X y i
     have hC := C_ok hO (y.drop (j + s.emi)) hso.1
     refine c_skip ?_
     refine c_seq ?_
     refine c_block ?_
     refine c_seq ?_
     refine c_reg ?_
     first | refine l_q (by decide) (r_index Tryd.underlying61 inf_64 rfl rfl rfl (by first | exact .fact (by repeat constructor) | exact .own (by repeat constructor) (by decide) (fun _ => rfl) | exact SlIn.reads (by repeat constructor) (by assumption) | exact SlIn.tab1 (by repeat constructor) | exact SlIn.tab2 (by repeat constructor) (by assumption)) rfl (by omega)).q ?_ | refine l_q (by decide) (r_index Tryd.underlying61 inf_64 rfl rfl rfl (by first | exact .fact (by repeat constructor) | exact .own (by repeat constructor) (by decide) (fun _ => rfl) | exact SlIn.reads (by repeat constructor) (by assumption) | exact SlIn.tab1 (by repeat constructor) | exact SlIn.tab2 (by repeat constructor) (by assumption)) rfl (by decide)).q ?_ | refine l_q (by decide) (p_indexo Tryd.underlying61 inf_64 rfl rfl rfl (by omega)).q ?_
     first | refine l_q (by decide) (r_loada Tryd.underlying64 rfl inf_64 rfl (by first | exact .fact (by repeat constructor) | exact .own (by repeat constructor) (by decide) (fun _ => rfl) | exact SlIn.reads (by repeat constructor) (by assumption) | exact SlIn.tab1 (by repeat constructor) | exact SlIn.tab2 (by repeat constructor) (by assumption)) (by assumption)).q ?_ | refine l_q (by decide) (r_loadow Tryd.underlying64 rfl inf_64 rfl (by repeat constructor) (by rfl)).q ?_ | refine l_q (by decide) (r_loadoa Tryd.underlying64 rfl inf_64 rfl (by repeat constructor) (by rfl) (fun j u h => h)).q ?_
     refine l_alloc (by decide) inf_64 _ rfl (fun b11 => ?_)
     first | (refine l_storew inf_64 rfl rfl rfl rfl rfl ?_) | (refine l_perm (front1 _ _ _) ?_; refine l_storew inf_64 rfl rfl rfl rfl rfl ?_) | (refine l_perm (front2 _ _ _ _) ?_; refine l_storew inf_64 rfl rfl rfl rfl rfl ?_) | (refine l_perm (front3 _ _ _ _ _) ?_; refine l_storew inf_64 rfl rfl rfl rfl rfl ?_) | (refine l_perm (front4 _ _ _ _ _ _) ?_; refine l_storew inf_64 rfl rfl rfl rfl rfl ?_) | (refine l_storea inf_64 rfl rfl rfl rfl (by decide) ?_) | (refine l_perm (front1 _ _ _) ?_; refine l_storea inf_64 rfl rfl rfl rfl (by decide) ?_) | (refine l_perm (front2 _ _ _ _) ?_; refine l_storea inf_64 rfl rfl rfl rfl (by decide) ?_)
     refine l_nil ?_
     refine c_seq ?_
     refine c_draw mixed (by decide +kernel) ?_
     first | refine q_q (by decide) (p_faddr (i := 1) 2 Tryd.underlying64 rfl inf_3 (by decide) rfl rfl).q ?_ | refine q_q (by decide) (p_faddro (i := 1) 2 Tryd.underlying64 rfl inf_3 (by decide) rfl rfl).q ?_
     first | refine q_q (by decide) (r_loado Tryd.underlying3 rfl rfl (by repeat constructor) (by rfl)).q ?_ | refine q_q (by decide) (r_load1 Tryd.underlying3 rfl rfl (by first | exact .fact (by repeat constructor) | exact .own (by repeat constructor) (by decide) (fun _ => rfl) | exact SlIn.reads (by repeat constructor) (by assumption) | exact SlIn.tab1 (by repeat constructor) | exact SlIn.tab2 (by repeat constructor) (by assumption)) (by first | assumption | rfl) (by rfl)).q ?_ | refine q_q (by decide) (r_loadf Tryd.underlying3 rfl rfl (by first | exact .fact (by repeat constructor) | exact .own (by repeat constructor) (by decide) (fun _ => rfl) | exact SlIn.reads (by repeat constructor) (by assumption) | exact SlIn.tab1 (by repeat constructor) | exact SlIn.tab2 (by repeat constructor) (by assumption)) (by assumption) (by rfl)).q ?_
     refine q_q (by decide) (p_move rfl).q ?_
     refine q_q (by decide) (p_move rfl).q ?_
     first | refine q_q (by decide) (p_faddr (i := 2) 3 Tryd.underlying64 rfl inf_3 (by decide) rfl rfl).q ?_ | refine q_q (by decide) (p_faddro (i := 2) 3 Tryd.underlying64 rfl inf_3 (by decide) rfl rfl).q ?_
     first | refine q_q (by decide) (r_loado Tryd.underlying3 rfl rfl (by repeat constructor) (by rfl)).q ?_ | refine q_q (by decide) (r_load1 Tryd.underlying3 rfl rfl (by first | exact .fact (by repeat constructor) | exact .own (by repeat constructor) (by decide) (fun _ => rfl) | exact SlIn.reads (by repeat constructor) (by assumption) | exact SlIn.tab1 (by repeat constructor) | exact SlIn.tab2 (by repeat constructor) (by assumption)) (by first | assumption | rfl) (by rfl)).q ?_ | refine q_q (by decide) (r_loadf Tryd.underlying3 rfl rfl (by first | exact .fact (by repeat constructor) | exact .own (by repeat constructor) (by decide) (fun _ => rfl) | exact SlIn.reads (by repeat constructor) (by assumption) | exact SlIn.tab1 (by repeat constructor) | exact SlIn.tab2 (by repeat constructor) (by assumption)) (by assumption) (by rfl)).q ?_
     first | refine q_q (by decide) (p_add rfl rfl rfl rfl (by show _ ≤ (9223372036854775807 : Nat); omega)).q ?_ | refine q_q (by decide) (p_addi rfl rfl (by show (-9223372036854775808 : Int) ≤ _; omega) (by show _ ≤ ((9223372036854775807 : Nat) : Int); omega)).q ?_
     first | refine q_q (by decide) (r_index Tryd.underlying57 inf_23 rfl rfl rfl (by first | exact .fact (by repeat constructor) | exact .own (by repeat constructor) (by decide) (fun _ => rfl) | exact SlIn.reads (by repeat constructor) (by assumption) | exact SlIn.tab1 (by repeat constructor) | exact SlIn.tab2 (by repeat constructor) (by assumption)) rfl (by omega)).q ?_ | refine q_q (by decide) (r_index Tryd.underlying57 inf_23 rfl rfl rfl (by first | exact .fact (by repeat constructor) | exact .own (by repeat constructor) (by decide) (fun _ => rfl) | exact SlIn.reads (by repeat constructor) (by assumption) | exact SlIn.tab1 (by repeat constructor) | exact SlIn.tab2 (by repeat constructor) (by assumption)) rfl (by decide)).q ?_ | refine q_q (by decide) (p_indexo Tryd.underlying57 inf_23 rfl rfl rfl (by omega)).q ?_
     first | refine q_q (by decide) (((r_loado Tryd.underlying23 rfl rfl (by repeat constructor) (by rfl))).to (u := .slice h1.1 (rowC X y (i + s.tok)).length h1.2.2) (by rw [rowC_len, x18.2.hd _ h1 hh1])).q ?_ | refine q_q (by decide) (((r_load1 Tryd.underlying23 rfl rfl (by first | exact .fact (by repeat constructor) | exact .own (by repeat constructor) (by decide) (fun _ => rfl) | exact SlIn.reads (by repeat constructor) (by assumption) | exact SlIn.tab1 (by repeat constructor) | exact SlIn.tab2 (by repeat constructor) (by assumption)) (by first | assumption | rfl) (by rfl))).to (u := .slice h1.1 (rowC X y (i + s.tok)).length h1.2.2) (by rw [rowC_len, x18.2.hd _ h1 hh1])).q ?_ | refine q_q (by decide) (((r_loadf Tryd.underlying23 rfl rfl (by first | exact .fact (by repeat constructor) | exact .own (by repeat constructor) (by decide) (fun _ => rfl) | exact SlIn.reads (by repeat constructor) (by assumption) | exact SlIn.tab1 (by repeat constructor) | exact SlIn.tab2 (by repeat constructor) (by assumption)) (by assumption) (by rfl))).to (u := .slice h1.1 (rowC X y (i + s.tok)).length h1.2.2) (by rw [rowC_len, x18.2.hd _ h1 hh1])).q ?_
     refine q_q (by decide) (p_move rfl).q ?_
     first | refine q_q (by decide) (p_faddr (i := 3) 4 Tryd.underlying64 rfl inf_3 (by decide) rfl rfl).q ?_ | refine q_q (by decide) (p_faddro (i := 3) 4 Tryd.underlying64 rfl inf_3 (by decide) rfl rfl).q ?_
     first | refine q_q (by decide) (r_loado Tryd.underlying3 rfl rfl (by repeat constructor) (by rfl)).q ?_ | refine q_q (by decide) (r_load1 Tryd.underlying3 rfl rfl (by first | exact .fact (by repeat constructor) | exact .own (by repeat constructor) (by decide) (fun _ => rfl) | exact SlIn.reads (by repeat constructor) (by assumption) | exact SlIn.tab1 (by repeat constructor) | exact SlIn.tab2 (by repeat constructor) (by assumption)) (by first | assumption | rfl) (by rfl)).q ?_ | refine q_q (by decide) (r_loadf Tryd.underlying3 rfl rfl (by first | exact .fact (by repeat constructor) | exact .own (by repeat constructor) (by decide) (fun _ => rfl) | exact SlIn.reads (by repeat constructor) (by assumption) | exact SlIn.tab1 (by repeat constructor) | exact SlIn.tab2 (by repeat constructor) (by assumption)) (by assumption) (by rfl)).q ?_
     first | refine q_q (by decide) (p_add rfl rfl rfl rfl (by show _ ≤ (9223372036854775807 : Nat); omega)).q ?_ | refine q_q (by decide) (p_addi rfl rfl (by show (-9223372036854775808 : Int) ≤ _; omega) (by show _ ≤ ((9223372036854775807 : Nat) : Int); omega)).q ?_
     first | refine q_q (by decide) (r_index Tryd.underlying23 inf_3 rfl rfl rfl (by first | exact .fact (by repeat constructor) | exact .own (by repeat constructor) (by decide) (fun _ => rfl) | exact SlIn.reads (by repeat constructor) (by assumption) | exact SlIn.tab1 (by repeat constructor) | exact SlIn.tab2 (by repeat constructor) (by assumption)) rfl (by omega)).q ?_ | refine q_q (by decide) (r_index Tryd.underlying23 inf_3 rfl rfl rfl (by first | exact .fact (by repeat constructor) | exact .own (by repeat constructor) (by decide) (fun _ => rfl) | exact SlIn.reads (by repeat constructor) (by assumption) | exact SlIn.tab1 (by repeat constructor) | exact SlIn.tab2 (by repeat constructor) (by assumption)) rfl (by decide)).q ?_ | refine q_q (by decide) (p_indexo Tryd.underlying23 inf_3 rfl rfl rfl (by omega)).q ?_
     first | refine q_q (by decide) (r_loado Tryd.underlying3 rfl rfl (by repeat constructor) (by rfl)).q ?_ | refine q_q (by decide) (r_load1 Tryd.underlying3 rfl rfl (by first | exact .fact (by repeat constructor) | exact .own (by repeat constructor) (by decide) (fun _ => rfl) | exact SlIn.reads (by repeat constructor) (by assumption) | exact SlIn.tab1 (by repeat constructor) | exact SlIn.tab2 (by repeat constructor) (by assumption)) (by first | assumption | rfl) (by rfl)).q ?_ | refine q_q (by decide) (r_loadf Tryd.underlying3 rfl rfl (by first | exact .fact (by repeat constructor) | exact .own (by repeat constructor) (by decide) (fun _ => rfl) | exact SlIn.reads (by repeat constructor) (by assumption) | exact SlIn.tab1 (by repeat constructor) | exact SlIn.tab2 (by repeat constructor) (by assumption)) (by assumption) (by rfl)).q ?_
     refine q_q (by decide) (q_call call_36 rfl (fun w hs => add_ok s.cost (Ed.C X.pl (i + s.tok) (y.drop (j + s.emi))) (by omega) (by omega) (by omega) (by omega) w)) ?_
     refine q_q (by decide) (p_move rfl).q ?_
     refine q_q (by decide) (p_move rfl).q ?_
     first | refine q_q (by decide) (r_index Tryd.underlying57 inf_23 rfl rfl rfl (by first | exact .fact (by repeat constructor) | exact .own (by repeat constructor) (by decide) (fun _ => rfl) | exact SlIn.reads (by repeat constructor) (by assumption) | exact SlIn.tab1 (by repeat constructor) | exact SlIn.tab2 (by repeat constructor) (by assumption)) rfl (by omega)).q ?_ | refine q_q (by decide) (r_index Tryd.underlying57 inf_23 rfl rfl rfl (by first | exact .fact (by repeat constructor) | exact .own (by repeat constructor) (by decide) (fun _ => rfl) | exact SlIn.reads (by repeat constructor) (by assumption) | exact SlIn.tab1 (by repeat constructor) | exact SlIn.tab2 (by repeat constructor) (by assumption)) rfl (by decide)).q ?_ | refine q_q (by decide) (p_indexo Tryd.underlying57 inf_23 rfl rfl rfl (by omega)).q ?_
     first | refine q_q (by decide) (((r_loado Tryd.underlying23 rfl rfl (by repeat constructor) (by rfl))).to (u := .slice h2.1 (rowC X y i).length h2.2.2) (by rw [rowC_len, x18.2.hd _ h2 hh2])).q ?_ | refine q_q (by decide) (((r_load1 Tryd.underlying23 rfl rfl (by first | exact .fact (by repeat constructor) | exact .own (by repeat constructor) (by decide) (fun _ => rfl) | exact SlIn.reads (by repeat constructor) (by assumption) | exact SlIn.tab1 (by repeat constructor) | exact SlIn.tab2 (by repeat constructor) (by assumption)) (by first | assumption | rfl) (by rfl))).to (u := .slice h2.1 (rowC X y i).length h2.2.2) (by rw [rowC_len, x18.2.hd _ h2 hh2])).q ?_ | refine q_q (by decide) (((r_loadf Tryd.underlying23 rfl rfl (by first | exact .fact (by repeat constructor) | exact .own (by repeat constructor) (by decide) (fun _ => rfl) | exact SlIn.reads (by repeat constructor) (by assumption) | exact SlIn.tab1 (by repeat constructor) | exact SlIn.tab2 (by repeat constructor) (by assumption)) (by assumption) (by rfl))).to (u := .slice h2.1 (rowC X y i).length h2.2.2) (by rw [rowC_len, x18.2.hd _ h2 hh2])).q ?_
     refine q_q (by decide) (p_move rfl).q ?_
     first | refine q_q (by decide) (r_index Tryd.underlying23 inf_3 rfl rfl rfl (by first | exact .fact (by repeat constructor) | exact .own (by repeat constructor) (by decide) (fun _ => rfl) | exact SlIn.reads (by repeat constructor) (by assumption) | exact SlIn.tab1 (by repeat constructor) | exact SlIn.tab2 (by repeat constructor) (by assumption)) rfl (by omega)).q ?_ | refine q_q (by decide) (r_index Tryd.underlying23 inf_3 rfl rfl rfl (by first | exact .fact (by repeat constructor) | exact .own (by repeat constructor) (by decide) (fun _ => rfl) | exact SlIn.reads (by repeat constructor) (by assumption) | exact SlIn.tab1 (by repeat constructor) | exact SlIn.tab2 (by repeat constructor) (by assumption)) rfl (by decide)).q ?_ | refine q_q (by decide) (p_indexo Tryd.underlying23 inf_3 rfl rfl rfl (by omega)).q ?_
     first | refine q_q (by decide) (r_loado Tryd.underlying3 rfl rfl (by repeat constructor) (by rfl)).q ?_ | refine q_q (by decide) (r_load1 Tryd.underlying3 rfl rfl (by first | exact .fact (by repeat constructor) | exact .own (by repeat constructor) (by decide) (fun _ => rfl) | exact SlIn.reads (by repeat constructor) (by assumption) | exact SlIn.tab1 (by repeat constructor) | exact SlIn.tab2 (by repeat constructor) (by assumption)) (by first | assumption | rfl) (by rfl)).q ?_ | refine q_q (by decide) (r_loadf Tryd.underlying3 rfl rfl (by first | exact .fact (by repeat constructor) | exact .own (by repeat constructor) (by decide) (fun _ => rfl) | exact SlIn.reads (by repeat constructor) (by assumption) | exact SlIn.tab1 (by repeat constructor) | exact SlIn.tab2 (by repeat constructor) (by assumption)) (by assumption) (by rfl)).q ?_
     first | refine q_q (by decide) (p_eql rfl rfl rfl rfl).q ?_ | refine q_q (by decide) (p_eqli rfl rfl).q ?_
     refine q_nil ?_
     first | refine c_dec rfl (fun h69 => ?_) (fun h69 => ?_) | refine c_cond rfl (fun h69 => ?_) (fun h69 => ?_)
     ·skip
      refine c_seq ?_
      refine c_reg ?_
      refine l_q (by decide) (p_move rfl).q ?_
      first | refine l_q (by decide) (p_faddr (i := 0) 0 Tryd.underlying64 rfl inf_46 (by decide) rfl rfl).q ?_ | refine l_q (by decide) (p_faddro (i := 0) 0 Tryd.underlying64 rfl inf_46 (by decide) rfl rfl).q ?_
      refine l_q (by decide) (r_loadoa (us := opF s.op) Tryd.underlying46 rfl inf_46 rfl (by repeat constructor) (by rfl) (fun j u h => sub_op h)).q ?_
      refine l_buildSlice (by decide) Tryd.underlying26 inf_46 (by decide) (by decide) rfl rfl rfl rfl (fun b73 => ?_)
      first | (refine l_append1 (s.op) (by decide) Tryd.underlying26 inf_46 rfl (by decide) rfl rfl rfl rfl rfl rfl (by have := hA.n; omega) (by have := hA.n; omega) (fun A74 c74 hA74 => ?_)) | (refine l_perm (.cons _ (front1 _ _ _)) ?_; refine l_append1 (s.op) (by decide) Tryd.underlying26 inf_46 rfl (by decide) rfl rfl rfl rfl rfl rfl (by have := hA.n; omega) (by have := hA.n; omega) (fun A74 c74 hA74 => ?_)) | (refine l_perm (.cons _ (front2 _ _ _ _)) ?_; refine l_append1 (s.op) (by decide) Tryd.underlying26 inf_46 rfl (by decide) rfl rfl rfl rfl rfl rfl (by have := hA.n; omega) (by have := hA.n; omega) (fun A74 c74 hA74 => ?_))
      refine l_q (by decide) (p_assign rfl).q ?_
      refine l_nil ?_
      refine c_seq ?_
      refine c_draw mixed (by decide +kernel) ?_
      refine q_q (by decide) (p_move rfl).q ?_
      first | refine q_q (by decide) (p_faddr (i := 2) 3 Tryd.underlying64 rfl inf_3 (by decide) rfl rfl).q ?_ | refine q_q (by decide) (p_faddro (i := 2) 3 Tryd.underlying64 rfl inf_3 (by decide) rfl rfl).q ?_
      first | refine q_q (by decide) (r_loado Tryd.underlying3 rfl rfl (by repeat constructor) (by rfl)).q ?_ | refine q_q (by decide) (r_load1 Tryd.underlying3 rfl rfl (by first | exact .fact (by repeat constructor) | exact .own (by repeat constructor) (by decide) (fun _ => rfl) | exact SlIn.reads (by repeat constructor) (by assumption) | exact SlIn.tab1 (by repeat constructor) | exact SlIn.tab2 (by repeat constructor) (by assumption)) (by first | assumption | rfl) (by rfl)).q ?_ | refine q_q (by decide) (r_loadf Tryd.underlying3 rfl rfl (by first | exact .fact (by repeat constructor) | exact .own (by repeat constructor) (by decide) (fun _ => rfl) | exact SlIn.reads (by repeat constructor) (by assumption) | exact SlIn.tab1 (by repeat constructor) | exact SlIn.tab2 (by repeat constructor) (by assumption)) (by assumption) (by rfl)).q ?_
      first | refine q_q (by decide) (p_add rfl rfl rfl rfl (by show _ ≤ (9223372036854775807 : Nat); omega)).q ?_ | refine q_q (by decide) (p_addi rfl rfl (by show (-9223372036854775808 : Int) ≤ _; omega) (by show _ ≤ ((9223372036854775807 : Nat) : Int); omega)).q ?_
      refine q_q (by decide) (p_move rfl).q ?_
      first | refine q_q (by decide) (p_faddr (i := 3) 4 Tryd.underlying64 rfl inf_3 (by decide) rfl rfl).q ?_ | refine q_q (by decide) (p_faddro (i := 3) 4 Tryd.underlying64 rfl inf_3 (by decide) rfl rfl).q ?_
      first | refine q_q (by decide) (r_loado Tryd.underlying3 rfl rfl (by repeat constructor) (by rfl)).q ?_ | refine q_q (by decide) (r_load1 Tryd.underlying3 rfl rfl (by first | exact .fact (by repeat constructor) | exact .own (by repeat constructor) (by decide) (fun _ => rfl) | exact SlIn.reads (by repeat constructor) (by assumption) | exact SlIn.tab1 (by repeat constructor) | exact SlIn.tab2 (by repeat constructor) (by assumption)) (by first | assumption | rfl) (by rfl)).q ?_ | refine q_q (by decide) (r_loadf Tryd.underlying3 rfl rfl (by first | exact .fact (by repeat constructor) | exact .own (by repeat constructor) (by decide) (fun _ => rfl) | exact SlIn.reads (by repeat constructor) (by assumption) | exact SlIn.tab1 (by repeat constructor) | exact SlIn.tab2 (by repeat constructor) (by assumption)) (by assumption) (by rfl)).q ?_
      first | refine q_q (by decide) (p_add rfl rfl rfl rfl (by show _ ≤ (9223372036854775807 : Nat); omega)).q ?_ | refine q_q (by decide) (p_addi rfl rfl (by show (-9223372036854775808 : Int) ≤ _; omega) (by show _ ≤ ((9223372036854775807 : Nat) : Int); omega)).q ?_
      refine q_q (by decide) (p_assign rfl).q ?_
      refine q_q (by decide) (p_assign rfl).q ?_
      refine q_nil ?_
      refine c_exit ?_
      refine c_out (by decide) ?_
      refine c_here ?_
      first | (refine c_drop (x := iCells b11 _ _) ?_) | (refine c_perm (front1 _ _ _) ?_; refine c_drop (x := iCells b11 _ _) ?_) | (refine c_perm (front2 _ _ _ _) ?_; refine c_drop (x := iCells b11 _ _) ?_) | (refine c_perm (front3 _ _ _ _ _) ?_; refine c_drop (x := iCells b11 _ _) ?_) | (refine c_perm (front4 _ _ _ _ _ _) ?_; refine c_drop (x := iCells b11 _ _) ?_)
      refine c_join ((i + s.tok), (j + s.emi), (o ++ [s.op]), (A74), (c74)) ?_ ?_ ?_ ?_
      ·show (AlgI X y (o ++ [s.op]) (i + s.tok) (j + s.emi)) ∧ (X.xs.length - (i + s.tok)) + (y.length - (j + s.emi)) < (X.xs.length - i) + (y.length - j)
       exact hA.next hO h35 (find_at hbad hs (by rw [good_gS]; exact decide_eq_true h69))
      · exact ⟨rfl, rfl, rfl, rfl, rfl, rfl, trivial⟩
      ·show List.Perm _ ([iSl 46 2 opF (A74) (c74) (o ++ [s.op]), iCells b2 25 [.slice X.A X.xs.length X.c, .slice X.B X.ins.length X.d, .int .i64 X.sw]])
       exact .refl _
      · simp
     ·skip
      refine c_skip ?_
      refine c_reg ?_
      first | refine l_q (by decide) (p_add (j := 1) rfl rfl rfl rfl (by show _ ≤ (9223372036854775807 : Nat); omega)).q ?_ | refine l_q (by decide) (p_addi rfl rfl (by show (-9223372036854775808 : Int) ≤ _; omega) (by show _ ≤ ((9223372036854775807 : Nat) : Int); omega)).q ?_
      refine l_q (by decide) (p_move rfl).q ?_
      refine l_nil ?_
      first | (refine c_drop (x := iCells b11 _ _) ?_) | (refine c_perm (front1 _ _ _) ?_; refine c_drop (x := iCells b11 _ _) ?_) | (refine c_perm (front2 _ _ _ _) ?_; refine c_drop (x := iCells b11 _ _) ?_) | (refine c_perm (front3 _ _ _ _ _) ?_; refine c_drop (x := iCells b11 _ _) ?_) | (refine c_perm (front4 _ _ _ _ _ _) ?_; refine c_drop (x := iCells b11 _ _) ?_)
      refine c_join ((k + 1)) ?_ ?_ ?_ ?_
      ·show ((k + 1) ≤ (Ed.steps X.pl i (y.drop j)).length ∧ ∀ s, s ∈ (Ed.steps X.pl i (y.drop j)).take (k + 1) → Ed.good X.pl i (y.drop j) s = false) ∧ (Ed.steps X.pl i (y.drop j)).length - (k + 1) < (Ed.steps X.pl i (y.drop j)).length - k
       refine ⟨⟨by omega, fun z hz => ?_⟩, by omega⟩
       rw [take_at hs] at hz
       rcases List.mem_append.1 hz with h | h
       · exact hbad z h
       · rw [List.mem_singleton.1 h, good_gS]; exact decide_eq_false h69
      · exact ⟨rfl, rfl, rfl, rfl, rfl, rfl, rfl, rfl, rfl, trivial⟩
      ·show List.Perm _ ([iSl 46 2 opF A1 d1 o, iCells b2 25 [.slice X.A X.xs.length X.c, .slice X.B X.ins.length X.d, .int .i64 X.sw]])
       exact .refl _
      · exact fun _ h => h
    ·skip
     refine c_exit ?_
     refine c_here ?_
     refine c_join ((i), (j), (o), (A1), (d1)) ?_ ?_ ?_ ?_
     ·show (AlgI X y (o) (i) (j)) ∧ (X.xs.length - (i)) + (y.length - (j)) < (X.xs.length - i) + (y.length - j)
      exfalso
      obtain ⟨s, hs⟩ := Ed.found (I := X.pl) (ys := y.drop j) (by rw [pl_len]; exact hA.hi) (by rw [pl_len, drop_end hA.hj]; omega) hA.lt
      have := hbad s (by rw [List.take_of_length_le (by omega)]; exact List.mem_of_find?_eq_some hs)
      rw [List.find?_some hs] at this; cases this
     · exact ⟨rfl, rfl, rfl, rfl, rfl, rfl, trivial⟩
     ·show List.Perm _ ([iSl 46 2 opF (A1) (d1) (o), iCells b2 25 [.slice X.A X.xs.length X.c, .slice X.B X.ins.length X.d, .int .i64 X.sw]])
      exact .refl _
     · simp
   ·skip
    refine c_exit ?_
    refine c_here ?_
    refine c_seq ?_
    refine c_reg ?_
    refine l_q (by decide) (p_move rfl).q ?_
    refine l_q (by decide) (p_assign rfl).q ?_
    refine l_q (by decide) (p_assign (v := .int .i64 ((0 : Nat) : Int)) rfl).q ?_
    refine l_nil ?_
    refine c_ret ?_
    refine c_ret2 rfl rfl rfl (fun w hs => ?_)
    have hij : i = X.xs.length ∧ j = y.length := by have := hA.hi; have := hA.hj; omega
    obtain ⟨hi0, hj0⟩ := hij
    subst hi0; subst hj0
    have hod : o = Ed.align X.pl 0 y := by have := hA.eq; rw [List.drop_length, show Ed.align X.pl X.xs.length [] = [] by rw [← pl_len]; exact Ed.align_end _, List.append_nil] at this; exact this
    have g := hs.give (e := 46) (size := 2) (f := opF) (es := o) (by repeat constructor) (by decide) len_opF
    exact (by rw [alg_yes hy hlt, ← hod]; exact ⟨(_, _), rfl, g.1, g.2.1, hs.ext⟩)
end Go.Proofs.YtlefheiohblgdaaDoor
