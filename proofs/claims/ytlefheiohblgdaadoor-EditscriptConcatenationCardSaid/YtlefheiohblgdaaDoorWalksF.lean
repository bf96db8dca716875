/- The walks of edit scripts, sixth part; conditions: lengths. -/
import Derived.Test.YtlefheiohblgdaaDoorWalksE
namespace Go.Proofs.YtlefheiohblgdaaDoor
open Go Go.Fx Go.Proofs

structure Flat (X : Inp) (y : List Int) where
  A : Option Addr
  c : Nat
  tb : List Int
  full : Tb X y tb 0 0
theorem Tb.mono {X : Inp} {y tb : List Int} {p q p2 q2 : Nat} (h : Tb X y tb p q) (hh : ∀ a b, b ≤ y.length → (p2 ≤ a ∨ (p2 = a + 1 ∧ q2 ≤ b)) → (p ≤ a ∨ (p = a + 1 ∧ q ≤ b))) : Tb X y tb p2 q2 := ⟨h.1, fun a b ha hb hc => h.2 a b ha hb (hh a b hb hc)⟩
theorem bst_le (I : Ed.In) (i : Nat) (ys : List Int) (k : Nat) : bst I i ys k ≤ 1099511627776 := by
  induction k with
  | zero => show (if _ then _ else _) ≤ _; split <;> omega
  | succ k ih => show min _ _ ≤ _; omega
theorem call_37 : Callable Tryd.prog 37 := ⟨_, Tryd.func37, by kernel_rfl, rfl⟩
theorem flat_ok (X : Inp) (hX : X.small) (w : World) (hM : X.mem w) (hO : Ed.Okin X.pl) (hn : X.xs.length ≤ 1000) (C : Option Addr) (e : Nat) (y : List Int) (hl : y.length ≤ 1000) (hY : Sl 1 intF C y w) (hy : ∀ t, t ∈ y → 0 ≤ t ∧ t < X.ins.length) :
   Calls Tryd.prog 32 #[.agg #[.slice X.A X.xs.length X.c, .slice X.B X.ins.length X.d, .int .i64 X.sw], .slice C y.length e] w (Ret fun v w' => ∃ x : Flat X y, v = .slice x.A x.tb.length x.c ∧ Sl 1 intF x.A x.tb w' ∧ Dep w.heap.size w'.heap.size (Sl 1 intF x.A x.tb) ∧ Ext [] w w') := by
 refine calls_fx (l := [.agg #[.slice X.A X.xs.length X.c, .slice X.B X.ins.length X.d, .int .i64 X.sw], .slice C y.length e]) Tryd.func32 rfl Tryd.ntmps32 (Nat.le_of_ble_eq_true rfl) ((X.start hM).old hY (dep_sl (by decide) hY)) ?_
 refine c_seq ?_
 refine c_reg ?_
 refine l_box (by decide) rfl _ rfl (fun b2 => ?_)
 refine l_q (by decide) (p_assign rfl).q ?_
 refine l_nil ?_
 refine c_seq ?_
 refine c_reg ?_
 first | refine l_q (by decide) (p_faddr (i := 0) 0 Tryd.underlying25 rfl inf_22 (by decide) rfl rfl).q ?_ | refine l_q (by decide) (p_faddro (i := 0) 0 Tryd.underlying25 rfl inf_22 (by decide) rfl rfl).q ?_
 first | refine l_q (by decide) (r_loado Tryd.underlying22 rfl rfl (by repeat constructor) (by rfl)).q ?_ | refine l_q (by decide) (r_load1 Tryd.underlying22 rfl rfl (by first | exact .fact (by repeat constructor) | exact .own (by repeat constructor) (by decide) (fun _ => rfl) | exact SlIn.reads (by repeat constructor) (by assumption)) (by first | assumption | rfl) (by rfl)).q ?_ | refine l_q (by decide) (r_loadf Tryd.underlying22 rfl rfl (by first | exact .fact (by repeat constructor) | exact .own (by repeat constructor) (by decide) (fun _ => rfl) | exact SlIn.reads (by repeat constructor) (by assumption)) (by assumption) (by rfl)).q ?_
 refine l_q (by decide) (p_len_sl Tryd.underlying22 rfl).q ?_
 refine l_q (by decide) (p_move rfl).q ?_
 refine l_q (by decide) (p_len_sl Tryd.underlying23 rfl).q ?_
 first | refine l_q (by decide) (p_add (j := 1) rfl rfl rfl rfl (by show _ ≤ (9223372036854775807 : Nat); omega)).q ?_ | refine l_q (by decide) (p_addi rfl rfl (by show (-9223372036854775808 : Int) ≤ _; omega) (by show _ ≤ ((9223372036854775807 : Nat) : Int); omega)).q ?_
 refine l_q (by decide) (p_assign rfl).q ?_
 refine l_q (by decide) (p_assign rfl).q ?_
 refine l_nil ?_
 refine c_seq ?_
 have hN : (X.xs.length + 1) * (y.length + 1) ≤ 1001 * 1001 := Nat.mul_le_mul (by omega) (by omega)
 refine c_reg ?_
 refine l_q (by decide) (p_move rfl).q ?_
 first | refine l_q (by decide) (p_add (j := 1) rfl rfl rfl rfl (by show _ ≤ (9223372036854775807 : Nat); omega)).q ?_ | refine l_q (by decide) (p_addi rfl rfl (by show (-9223372036854775808 : Int) ≤ _; omega) (by show _ ≤ ((9223372036854775807 : Nat) : Int); omega)).q ?_
 refine l_q (by decide) (p_move rfl).q ?_
 refine l_q (by decide) (p_mul rfl rfl rfl rfl (by show _ ≤ (9223372036854775807 : Nat); omega)).q ?_
 refine l_make (by decide) Tryd.underlying23 inf_3 rfl rfl rfl rfl rfl rfl (by omega) (by omega) (fun b22 => ?_)
 refine l_q (by decide) (p_assign rfl).q ?_
 refine l_nil ?_
 refine c_seq ?_
 refine c_seq ?_
 refine c_reg ?_
 refine l_q (by decide) (p_move rfl).q ?_
 refine l_q (by decide) (p_assign rfl).q ?_
 refine l_nil ?_
 refine c_block ?_
 rw [flat_repl]
 refine c_loop (S := Nat × List Int) (fun zs => zs.1 ≤ X.xs.length + 1 ∧ Tb X y zs.2 zs.1 (y.length + 1)) (fun zs => zs.1) (fun zs => [(1, .slice C y.length e), (2, .pointer (some ⟨b2, 0, none⟩)), (5, .int .i64 (X.xs.length : Int)), (6, .int .i64 ((y.length + 1 : Nat) : Int)), (7, .slice (some ⟨b22, 0, none⟩) (zs.2).length (zs.2).length), (8, .int .i64 ((zs.1 : Int) - 1))]) (fun zs => [iCells b22 3 ((zs.2).flatMap intF), iCells b2 25 [.slice X.A X.xs.length X.c, .slice X.B X.ins.length X.d, .int .i64 X.sw]]) (fun zs => (Sl 1 intF C y :: [Rd X.xs, Sl 1 intF X.B X.ins, Sl 3 colF X.A X.xs])) (X.xs.length + 1, List.replicate ((X.xs.length + 1) * (y.length + 1)) 0) ?_ ?_ ?_ ?_ ?_
 · show (X.xs.length + 1) ≤ X.xs.length + 1 ∧ Tb X y (List.replicate ((X.xs.length + 1) * (y.length + 1)) 0) (X.xs.length + 1) (y.length + 1)
   exact ⟨Nat.le_refl _, by simp, fun a b ha hb hc => by omega⟩
 · exact ⟨rfl, rfl, rfl, rfl, (by simp only [List.length_replicate]; rfl), (by show some _ = some _; congr 2 <;> omega), trivial⟩
 · exact .refl _
 · exact fun _ h => h
 rintro ⟨p, tb⟩ hinv
 have hinv : p ≤ X.xs.length + 1 ∧ Tb X y tb p (y.length + 1) := hinv
 obtain ⟨hp, hT⟩ := hinv
 show Cont _ _ _ _ [(1, .slice C y.length e), (2, .pointer (some ⟨b2, 0, none⟩)), (5, .int .i64 (X.xs.length : Int)), (6, .int .i64 ((y.length + 1 : Nat) : Int)), (7, .slice (some ⟨b22, 0, none⟩) (tb).length (tb).length), (8, .int .i64 ((p : Int) - 1))] ([iCells b22 3 ((tb).flatMap intF), iCells b2 25 [.slice X.A X.xs.length X.c, .slice X.B X.ins.length X.d, .int .i64 X.sw]]) (Sl 1 intF C y :: [Rd X.xs, Sl 1 intF X.B X.ins, Sl 3 colF X.A X.xs])
 refine c_seq ?_
 refine c_seq ?_
 refine c_reg ?_
 refine l_q (by decide) (p_move rfl).q ?_
 first | refine l_q (by decide) (p_geq (j := 0) rfl rfl rfl rfl).q ?_ | refine l_q (by decide) (p_geqi rfl rfl).q ?_
 refine l_nil ?_
 first | refine c_dec rfl (fun h25 => ?_) (fun h25 => ?_) | refine c_cond rfl (fun h25 => ?_) (fun h25 => ?_)
 ·skip
  have h25 : (p : Int) - 1 ≥ 0 := h25
  obtain ⟨i, hpi⟩ : ∃ i, i + 1 = p := ⟨p - 1, by omega⟩
  rw [show ((p : Int) - 1) = ((i : Nat) : Int) by omega]
  refine c_skip ?_
  refine c_seq ?_
  refine c_block ?_
  refine c_seq ?_
  refine c_reg ?_
  refine l_q (by decide) (p_move rfl).q ?_
  refine l_q (by decide) (p_len_sl Tryd.underlying23 rfl).q ?_
  refine l_q (by decide) (p_assign rfl).q ?_
  refine l_nil ?_
  refine c_block ?_
  refine c_loop (S := Nat × List Int) (fun zs => zs.1 ≤ y.length + 1 ∧ Tb X y zs.2 (i + 1) zs.1) (fun zs => zs.1) (fun zs => [(1, .slice C y.length e), (2, .pointer (some ⟨b2, 0, none⟩)), (5, .int .i64 (X.xs.length : Int)), (6, .int .i64 ((y.length + 1 : Nat) : Int)), (7, .slice (some ⟨b22, 0, none⟩) (zs.2).length (zs.2).length), (8, .int .i64 (i : Int)), (9, .int .i64 ((zs.1 : Int) - 1))]) (fun zs => [iCells b22 3 ((zs.2).flatMap intF), iCells b2 25 [.slice X.A X.xs.length X.c, .slice X.B X.ins.length X.d, .int .i64 X.sw]]) (fun zs => (Sl 1 intF C y :: [Rd X.xs, Sl 1 intF X.B X.ins, Sl 3 colF X.A X.xs])) (y.length + 1, tb) ?_ ?_ ?_ ?_ ?_
  · show (y.length + 1) ≤ y.length + 1 ∧ Tb X y (tb) (i + 1) (y.length + 1)
    exact ⟨Nat.le_refl _, by rw [hpi]; exact hT⟩
  · exact ⟨rfl, rfl, rfl, rfl, rfl, rfl, (by show some _ = some _; congr 2 <;> omega), trivial⟩
  · exact .refl _
  · exact fun _ h => h
  rintro ⟨q, tb2⟩ hinv
  have hinv : q ≤ y.length + 1 ∧ Tb X y tb2 (i + 1) q := hinv
  obtain ⟨hq, hT2⟩ := hinv
  show Cont _ _ _ _ [(1, .slice C y.length e), (2, .pointer (some ⟨b2, 0, none⟩)), (5, .int .i64 (X.xs.length : Int)), (6, .int .i64 ((y.length + 1 : Nat) : Int)), (7, .slice (some ⟨b22, 0, none⟩) (tb2).length (tb2).length), (8, .int .i64 (i : Int)), (9, .int .i64 ((q : Int) - 1))] ([iCells b22 3 ((tb2).flatMap intF), iCells b2 25 [.slice X.A X.xs.length X.c, .slice X.B X.ins.length X.d, .int .i64 X.sw]]) (Sl 1 intF C y :: [Rd X.xs, Sl 1 intF X.B X.ins, Sl 3 colF X.A X.xs])
  refine c_seq ?_
  refine c_seq ?_
  refine c_reg ?_
  refine l_q (by decide) (p_move rfl).q ?_
  first | refine l_q (by decide) (p_geq (j := 0) rfl rfl rfl rfl).q ?_ | refine l_q (by decide) (p_geqi rfl rfl).q ?_
  refine l_nil ?_
  first | refine c_dec rfl (fun h31 => ?_) (fun h31 => ?_) | refine c_cond rfl (fun h31 => ?_) (fun h31 => ?_)
  ·skip
   have h31 : (q : Int) - 1 ≥ 0 := h31
   obtain ⟨j, hqj⟩ : ∃ j, j + 1 = q := ⟨q - 1, by omega⟩
   rw [show ((q : Int) - 1) = ((j : Nat) : Int) by omega]
   refine c_skip ?_
   refine c_seq ?_
   refine c_block ?_
   refine c_seq ?_
   refine c_reg ?_
   refine l_q (by decide) (p_assign (v := .int .i64 ((1099511627776 : Nat) : Int)) rfl).q ?_
   refine l_nil ?_
   refine c_seq ?_
   refine c_seq ?_
   refine c_meetn (S := Unit) (fun zs => True) (fun zs => [(1, .slice C y.length e), (2, .pointer (some ⟨b2, 0, none⟩)), (5, .int .i64 (X.xs.length : Int)), (6, .int .i64 ((y.length + 1 : Nat) : Int)), (7, .slice (some ⟨b22, 0, none⟩) (tb2).length (tb2).length), (8, .int .i64 (i : Int)), (9, .int .i64 (j : Int)), (10, .int .i64 ((1099511627776 : Nat) : Int)), (42, .bool (decide (i = X.xs.length ∧ j = y.length)))]) (fun zs => [iCells b22 3 ((tb2).flatMap intF), iCells b2 25 [.slice X.A X.xs.length X.c, .slice X.B X.ins.length X.d, .int .i64 X.sw]]) (fun zs => (Sl 1 intF C y :: [Rd X.xs, Sl 1 intF X.B X.ins, Sl 3 colF X.A X.xs])) ?_ ?_
   ·skip
    refine c_reg ?_
    refine l_q (by decide) (p_move rfl).q ?_
    refine l_q (by decide) (p_move rfl).q ?_
    first | refine l_q (by decide) (p_eql rfl rfl rfl rfl).q ?_ | refine l_q (by decide) (p_eqli rfl rfl).q ?_
    refine l_q (by decide) (p_move rfl).q ?_
    first | refine l_splitd (t := 37) rfl (fun h37 => ?_) (fun h37 => ?_) | refine l_splitb (t := 37) rfl (fun h37 => ?_) (fun h37 => ?_)
    ·skip
     refine l_g (j := 3) rfl rfl (by decide) (p_move rfl).q ?_
     refine l_g (j := 3) rfl rfl (by decide) (p_move rfl).q ?_
     refine l_g (j := 3) rfl rfl (by decide) (p_len_sl Tryd.underlying23 rfl).q ?_
     first | refine l_g (j := 3) rfl rfl (by decide) (p_eql rfl rfl rfl rfl).q ?_ | refine l_g (j := 3) rfl rfl (by decide) (p_eqli rfl rfl).q ?_
     refine l_q (by decide) (p_pick rfl rfl).q ?_
     refine l_nil ?_
     refine c_join (()) ?inv ?sub ?perm ?facts
     case sub => exact ⟨rfl, rfl, rfl, rfl, rfl, rfl, rfl, rfl, (by first | rfl | exact congrArg (fun b => some (Value.bool b)) (decide_eq_true (by omega)).symm | exact congrArg (fun b => some (Value.bool b)) (decide_eq_false (by omega)).symm | exact congrArg (fun b => some (Value.bool b)) (decide_eq_decide.2 (by omega))), trivial⟩
     case perm =>
      exact .refl _
     case facts => exact fun _ h => h
     case inv =>
      trivial
    ·skip
     refine l_off (j := 3) rfl rfl (by first | (simp; done) | (simp [undef]; done)) (by decide) ?_
     refine l_off (j := 3) rfl rfl (by first | (simp; done) | (simp [undef]; done)) (by decide) ?_
     refine l_off (j := 3) rfl rfl (by first | (simp; done) | (simp [undef]; done)) (by decide) ?_
     refine l_off (j := 3) rfl rfl (by first | (simp; done) | (simp [undef]; done)) (by decide) ?_
     refine l_q (by decide) (p_pick rfl rfl).q ?_
     refine l_nil ?_
     refine c_join (()) ?inv ?sub ?perm ?facts
     case sub => exact ⟨rfl, rfl, rfl, rfl, rfl, rfl, rfl, rfl, (by first | rfl | exact congrArg (fun b => some (Value.bool b)) (decide_eq_true (by omega)).symm | exact congrArg (fun b => some (Value.bool b)) (decide_eq_false (by omega)).symm | exact congrArg (fun b => some (Value.bool b)) (decide_eq_decide.2 (by omega))), trivial⟩
     case perm =>
      exact .refl _
     case facts => exact fun _ h => h
     case inv =>
      trivial
   rintro uu hmeet
   show Cont _ _ _ _ [(1, .slice C y.length e), (2, .pointer (some ⟨b2, 0, none⟩)), (5, .int .i64 (X.xs.length : Int)), (6, .int .i64 ((y.length + 1 : Nat) : Int)), (7, .slice (some ⟨b22, 0, none⟩) (tb2).length (tb2).length), (8, .int .i64 (i : Int)), (9, .int .i64 (j : Int)), (10, .int .i64 ((1099511627776 : Nat) : Int)), (42, .bool (decide (i = X.xs.length ∧ j = y.length)))] ([iCells b22 3 ((tb2).flatMap intF), iCells b2 25 [.slice X.A X.xs.length X.c, .slice X.B X.ins.length X.d, .int .i64 X.sw]]) (Sl 1 intF C y :: [Rd X.xs, Sl 1 intF X.B X.ins, Sl 3 colF X.A X.xs])
   refine c_meetn (S := Unit) (fun zs => True) (fun zs => [(1, .slice C y.length e), (2, .pointer (some ⟨b2, 0, none⟩)), (5, .int .i64 (X.xs.length : Int)), (6, .int .i64 ((y.length + 1 : Nat) : Int)), (7, .slice (some ⟨b22, 0, none⟩) (tb2).length (tb2).length), (8, .int .i64 (i : Int)), (9, .int .i64 (j : Int)), (10, .int .i64 (bst X.pl i (y.drop j) 0))]) (fun zs => [iCells b22 3 ((tb2).flatMap intF), iCells b2 25 [.slice X.A X.xs.length X.c, .slice X.B X.ins.length X.d, .int .i64 X.sw]]) (fun zs => (Sl 1 intF C y :: [Rd X.xs, Sl 1 intF X.B X.ins, Sl 3 colF X.A X.xs])) ?_ ?_
   ·skip
    first | refine c_dec rfl (fun h42 => ?_) (fun h42 => ?_) | refine c_cond rfl (fun h42 => ?_) (fun h42 => ?_)
    ·skip
     refine c_reg ?_
     refine l_q (by decide) (p_assign (v := .int .i64 ((0 : Nat) : Int)) rfl).q ?_
     refine l_nil ?_
     refine c_join (()) ?inv ?sub ?perm ?facts
     case sub => exact ⟨rfl, rfl, rfl, rfl, rfl, rfl, rfl, (by rw [show bst X.pl i (y.drop j) 0 = 0 from if_pos ⟨by rw [pl_len]; omega, (drop_end (by omega)).2 h42.2⟩]; rfl), trivial⟩
     case perm =>
      exact .refl _
     case facts => exact fun _ h => h
     case inv =>
      trivial
    ·skip
     refine c_skip ?_
     refine c_join (()) ?inv ?sub ?perm ?facts
     case sub => exact ⟨rfl, rfl, rfl, rfl, rfl, rfl, rfl, (by rw [show bst X.pl i (y.drop j) 0 = 1099511627776 from if_neg (fun h => h42 ⟨by rw [pl_len] at h; omega, (drop_end (by omega)).1 h.2⟩)]; rfl), trivial⟩
     case perm =>
      exact .refl _
     case facts => exact fun _ h => h
     case inv =>
      trivial
   rintro uu hmeet
   show Cont _ _ _ _ [(1, .slice C y.length e), (2, .pointer (some ⟨b2, 0, none⟩)), (5, .int .i64 (X.xs.length : Int)), (6, .int .i64 ((y.length + 1 : Nat) : Int)), (7, .slice (some ⟨b22, 0, none⟩) (tb2).length (tb2).length), (8, .int .i64 (i : Int)), (9, .int .i64 (j : Int)), (10, .int .i64 (bst X.pl i (y.drop j) 0))] ([iCells b22 3 ((tb2).flatMap intF), iCells b2 25 [.slice X.A X.xs.length X.c, .slice X.B X.ins.length X.d, .int .i64 X.sw]]) (Sl 1 intF C y :: [Rd X.xs, Sl 1 intF X.B X.ins, Sl 3 colF X.A X.xs])
   refine c_seq ?_
   refine c_seq ?_
   refine c_reg ?_
   refine l_q (by decide) (p_assign (v := .int .i64 ((1 : Nat) : Int)) rfl).q ?_
   refine l_nil ?_
   refine c_block ?_
   refine c_loop (S := Nat) (fun zs => zs ≤ 4) (fun zs => 4 - zs) (fun zs => [(1, .slice C y.length e), (2, .pointer (some ⟨b2, 0, none⟩)), (5, .int .i64 (X.xs.length : Int)), (6, .int .i64 ((y.length + 1 : Nat) : Int)), (7, .slice (some ⟨b22, 0, none⟩) (tb2).length (tb2).length), (8, .int .i64 (i : Int)), (9, .int .i64 (j : Int)), (10, .int .i64 (bst X.pl i (y.drop j) zs)), (11, .int .i64 ((zs + 1 : Nat) : Int))]) (fun zs => [iCells b22 3 ((tb2).flatMap intF), iCells b2 25 [.slice X.A X.xs.length X.c, .slice X.B X.ins.length X.d, .int .i64 X.sw]]) (fun zs => (Sl 1 intF C y :: [Rd X.xs, Sl 1 intF X.B X.ins, Sl 3 colF X.A X.xs])) (0) ?_ ?_ ?_ ?_ ?_
   · show (0) ≤ 4
     exact Nat.zero_le _
   · exact ⟨rfl, rfl, rfl, rfl, rfl, rfl, rfl, rfl, rfl, trivial⟩
   · exact .refl _
   · exact fun _ h => h
   rintro k hinv
   have hinv : k ≤ 4 := hinv
   have hk := hinv
   show Cont _ _ _ _ [(1, .slice C y.length e), (2, .pointer (some ⟨b2, 0, none⟩)), (5, .int .i64 (X.xs.length : Int)), (6, .int .i64 ((y.length + 1 : Nat) : Int)), (7, .slice (some ⟨b22, 0, none⟩) (tb2).length (tb2).length), (8, .int .i64 (i : Int)), (9, .int .i64 (j : Int)), (10, .int .i64 (bst X.pl i (y.drop j) k)), (11, .int .i64 ((k + 1 : Nat) : Int))] ([iCells b22 3 ((tb2).flatMap intF), iCells b2 25 [.slice X.A X.xs.length X.c, .slice X.B X.ins.length X.d, .int .i64 X.sw]]) (Sl 1 intF C y :: [Rd X.xs, Sl 1 intF X.B X.ins, Sl 3 colF X.A X.xs])
   refine c_seq ?_
   refine c_seq ?_
   refine c_reg ?_
   refine l_q (by decide) (p_move rfl).q ?_
   first | refine l_q (by decide) (p_leq (j := 4) rfl rfl rfl rfl).q ?_ | refine l_q (by decide) (p_leqi rfl rfl).q ?_
   refine l_nil ?_
   first | refine c_dec rfl (fun h44 => ?_) (fun h44 => ?_) | refine c_cond rfl (fun h44 => ?_) (fun h44 => ?_)
   ·skip
    refine c_skip ?_
    refine c_seq ?_
    refine c_block ?_
    refine c_reg ?_
    refine l_q (by decide) (p_move rfl).q ?_
    first | refine l_q (by decide) (r_loada Tryd.underlying25 rfl inf_25 rfl (by first | exact .fact (by repeat constructor) | exact .own (by repeat constructor) (by decide) (fun _ => rfl) | exact SlIn.reads (by repeat constructor) (by assumption)) (by assumption)).q ?_ | refine l_q (by decide) (r_loadow Tryd.underlying25 rfl inf_25 rfl (by repeat constructor) (by rfl)).q ?_ | refine l_q (by decide) (r_loadoa Tryd.underlying25 rfl inf_25 rfl (by repeat constructor) (by rfl) (fun j u h => h)).q ?_
    refine l_q (by decide) (p_move rfl).q ?_
    refine l_q (by decide) (p_move rfl).q ?_
    refine l_q (by decide) (p_move rfl).q ?_
    refine l_q (by decide) (p_move rfl).q ?_
    refine l_q (by decide) (p_move rfl).q ?_
    refine l_q (by decide) (p_move rfl).q ?_
    refine l_q (by decide) (q_call call_37 rfl (fun w hs => step_ok X hX w (X.of hs (by repeat constructor) (by repeat constructor) (by repeat constructor)) hO hn C e y hl (hs.facts _ (by repeat constructor)).1 hy (some ⟨b22, 0, none⟩) tb2.length tb2 (cells_sl (fun _ => rfl) (hs.own _ (by repeat constructor)).1) i j (k + 1) (by omega) (by omega) (by rw [hqj]; exact hT2) (by omega) (by omega))) ?_
    first | refine l_q (by decide) (p_min rfl rfl rfl rfl).q ?_ | refine l_q (by decide) (p_mini rfl rfl).q ?_
    refine l_q (by decide) (p_assign rfl).q ?_
    refine l_nil ?_
    refine c_reg ?_
    refine l_q (by decide) (p_move rfl).q ?_
    first | refine l_q (by decide) (p_add (j := 1) rfl rfl rfl rfl (by show _ ≤ (9223372036854775807 : Nat); omega)).q ?_ | refine l_q (by decide) (p_addi rfl rfl (by show (-9223372036854775808 : Int) ≤ _; omega) (by show _ ≤ ((9223372036854775807 : Nat) : Int); omega)).q ?_
    refine l_q (by decide) (p_assign rfl).q ?_
    refine l_nil ?_
    refine c_join ((k + 1)) ?_ ?_ ?_ ?_
    ·show ((k + 1) ≤ 4) ∧ 4 - (k + 1) < 4 - k
     exact ⟨by omega, by omega⟩
    · exact ⟨rfl, rfl, rfl, rfl, rfl, rfl, rfl, (rfl), (rfl), trivial⟩
    ·show List.Perm _ ([iCells b22 3 ((tb2).flatMap intF), iCells b2 25 [.slice X.A X.xs.length X.c, .slice X.B X.ins.length X.d, .int .i64 X.sw]])
     exact .refl _
    · exact fun _ h => h
   ·skip
    refine c_exit ?_
    refine c_here ?_
    have hk4 : k = 4 := by omega
    subst hk4
    have hlt := idx_lt (n := X.xs.length) (m := y.length) (i := i) (j := j) (by omega) (by omega)
    have htl := hT2.1
    have hfl := flat_len tb2
    have hm0 : i * (y.length + 1) ≤ 1002 * 1001 := Nat.mul_le_mul (by omega) (by omega)
    refine c_reg ?_
    refine l_q (by decide) (p_move rfl).q ?_
    refine l_q (by decide) (p_move rfl).q ?_
    refine l_q (by decide) (p_move rfl).q ?_
    refine l_q (by decide) (p_mul rfl rfl rfl rfl (by show _ ≤ (9223372036854775807 : Nat); omega)).q ?_
    refine l_q (by decide) (p_move rfl).q ?_
    first | refine l_q (by decide) (p_add rfl rfl rfl rfl (by show _ ≤ (9223372036854775807 : Nat); omega)).q ?_ | refine l_q (by decide) (p_addi rfl rfl (by show (-9223372036854775808 : Int) ≤ _; omega) (by show _ ≤ ((9223372036854775807 : Nat) : Int); omega)).q ?_
    refine l_q (by decide) (p_move rfl).q ?_
    first | refine l_q (by decide) (r_index Tryd.underlying23 inf_3 rfl rfl rfl (by first | exact .fact (by repeat constructor) | exact .own (by repeat constructor) (by decide) (fun _ => rfl) | exact SlIn.reads (by repeat constructor) (by assumption)) rfl (by omega)).q ?_ | refine l_q (by decide) (r_index Tryd.underlying23 inf_3 rfl rfl rfl (by first | exact .fact (by repeat constructor) | exact .own (by repeat constructor) (by decide) (fun _ => rfl) | exact SlIn.reads (by repeat constructor) (by assumption)) rfl (by decide)).q ?_ | refine l_q (by decide) (p_indexo Tryd.underlying23 inf_3 rfl rfl rfl (by omega)).q ?_
    first | (refine l_store inf_3 rfl rfl rfl rfl (by first | decide | exact Nat.le_of_ble_eq_true rfl | (simp; done) | omega | (simp only [Nat.mul_one]; assumption)) ?_) | (refine l_perm (front1 _ _ _) ?_; refine l_store inf_3 rfl rfl rfl rfl (by first | decide | exact Nat.le_of_ble_eq_true rfl | (simp; done) | omega | (simp only [Nat.mul_one]; assumption)) ?_) | (refine l_perm (front2 _ _ _ _) ?_; refine l_store inf_3 rfl rfl rfl rfl (by first | decide | exact Nat.le_of_ble_eq_true rfl | (simp; done) | omega | (simp only [Nat.mul_one]; assumption)) ?_) | (refine l_perm (front3 _ _ _ _ _) ?_; refine l_store inf_3 rfl rfl rfl rfl (by first | decide | exact Nat.le_of_ble_eq_true rfl | (simp; done) | omega | (simp only [Nat.mul_one]; assumption)) ?_) | (refine l_perm (front4 _ _ _ _ _ _) ?_; refine l_store inf_3 rfl rfl rfl rfl (by first | decide | exact Nat.le_of_ble_eq_true rfl | (simp; done) | omega | (simp only [Nat.mul_one]; assumption)) ?_)
    refine l_nil ?_
    refine c_reg ?_
    refine l_q (by decide) (p_move rfl).q ?_
    first | refine l_q (by decide) (p_sub (j := 1) rfl rfl rfl rfl (by omega) (by show _ ≤ (9223372036854775807 : Nat); omega)).q ?_ | refine l_q (by decide) (p_subi rfl rfl (by show (-9223372036854775808 : Int) ≤ _; omega) (by show _ ≤ ((9223372036854775807 : Nat) : Int); omega)).q ?_
    refine l_q (by decide) (p_assign rfl).q ?_
    refine l_nil ?_
    refine c_join ((j), (tb2.set (i * (y.length + 1) + j) (bst X.pl i (y.drop j) 4))) ?_ ?_ ?_ ?_
    ·show ((j) ≤ y.length + 1 ∧ Tb X y (tb2.set (i * (y.length + 1) + j) (bst X.pl i (y.drop j) 4)) (i + 1) (j)) ∧ (j) < q
     exact ⟨⟨by omega, by rw [bst_C i (y.drop j) (by rw [pl_len]; omega)]; exact (show Tb X y tb2 (i + 1) (j + 1) by rw [hqj]; exact hT2).set (by omega) (by omega)⟩, by omega⟩
    · exact ⟨rfl, rfl, rfl, rfl, (by rw [List.length_set]; rfl), rfl, (by show some _ = some _; congr 2 <;> omega), trivial⟩
    ·show List.Perm _ ([iCells b22 3 (((tb2.set (i * (y.length + 1) + j) (bst X.pl i (y.drop j) 4))).flatMap intF), iCells b2 25 [.slice X.A X.xs.length X.c, .slice X.B X.ins.length X.d, .int .i64 X.sw]])
     rw [Nat.mul_one, flat_set]
     repeat (first | exact List.Perm.refl _ | refine List.Perm.cons _ ?_ | refine (front1 _ _ _).trans (List.Perm.cons _ ?_) | refine (front2 _ _ _ _).trans (List.Perm.cons _ ?_) | refine (front3 _ _ _ _ _).trans (List.Perm.cons _ ?_) | refine (front4 _ _ _ _ _ _).trans (List.Perm.cons _ ?_))
    · exact fun _ h => h
  ·skip
   have h31 : ¬ (q : Int) - 1 ≥ 0 := h31
   have hq0 : q = 0 := by omega
   subst hq0
   refine c_exit ?_
   refine c_here ?_
   refine c_reg ?_
   refine l_q (by decide) (p_move rfl).q ?_
   first | refine l_q (by decide) (p_sub (j := 1) rfl rfl rfl rfl (by omega) (by show _ ≤ (9223372036854775807 : Nat); omega)).q ?_ | refine l_q (by decide) (p_subi rfl rfl (by show (-9223372036854775808 : Int) ≤ _; omega) (by show _ ≤ ((9223372036854775807 : Nat) : Int); omega)).q ?_
   refine l_q (by decide) (p_assign rfl).q ?_
   refine l_nil ?_
   refine c_join ((i), (tb2)) ?_ ?_ ?_ ?_
   ·show ((i) ≤ X.xs.length + 1 ∧ Tb X y (tb2) (i) (y.length + 1)) ∧ (i) < p
    exact ⟨⟨by omega, hT2.mono (fun a b hb hc => by omega)⟩, by omega⟩
   · exact ⟨rfl, rfl, rfl, rfl, rfl, rfl, trivial⟩
   ·show List.Perm _ ([iCells b22 3 (((tb2)).flatMap intF), iCells b2 25 [.slice X.A X.xs.length X.c, .slice X.B X.ins.length X.d, .int .i64 X.sw]])
    exact .refl _
   · exact fun _ h => h
 ·skip
  have h25 : ¬ (p : Int) - 1 ≥ 0 := h25
  refine c_exit ?_
  refine c_here ?_
  refine c_seq ?_
  refine c_reg ?_
  refine l_q (by decide) (p_move rfl).q ?_
  refine l_q (by decide) (p_assign rfl).q ?_
  refine l_nil ?_
  refine c_ret ?_
  refine c_ret1 rfl rfl (fun w hs => ?_)
  have hp0 : p = 0 := by omega
  subst hp0
  have h1 := hs.own _ (List.mem_cons_self ..)
  have k1 := h1.2.2 b22 (by simp [iCells])
  exact ⟨⟨some ⟨b22, 0, none⟩, tb.length, tb, hT.mono (fun a b hb hc => by omega)⟩, rfl, cells_sl (fun _ => rfl) h1.1, Sl.dep (fun a ha => by injection ha with ha; subst ha; exact ⟨by simpa using k1.2, k1.1⟩), hs.ext⟩
end Go.Proofs.YtlefheiohblgdaaDoor
