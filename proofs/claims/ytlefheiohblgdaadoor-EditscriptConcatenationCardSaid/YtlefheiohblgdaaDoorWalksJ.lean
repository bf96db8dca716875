/- The walks of edit scripts, tenth part; conditions: lengths. -/
import Derived.Test.YtlefheiohblgdaaDoorWalksI
namespace Go.Proofs.YtlefheiohblgdaaDoor
open Go Go.Fx Go.Proofs

theorem kv_exists {X : Inp} {i j : Nat} {y : List Int} (hi : i ≤ X.xs.length) (hj : j ≤ y.length) (hne : i < X.xs.length ∨ j < y.length) (hlt : Ed.C X.pl i (y.drop j) < 1099511627776) : ∃ k, 1 ≤ k ∧ k ≤ 4 ∧ kv X.pl i (y.drop j) k = Ed.C X.pl i (y.drop j) := by
  have h := bst_C (I := X.pl) i (y.drop j) (by rw [pl_len]; exact hi)
  have h2 : min (min (min (min (if i = X.pl.cols.length ∧ y.drop j = [] then 0 else 1099511627776) (kv X.pl i (y.drop j) 1)) (kv X.pl i (y.drop j) 2)) (kv X.pl i (y.drop j) 3)) (kv X.pl i (y.drop j) 4) = Ed.C X.pl i (y.drop j) := h
  rw [if_neg (by rw [pl_len, drop_end hj]; omega)] at h2
  by_cases h1 : kv X.pl i (y.drop j) 1 = Ed.C X.pl i (y.drop j)
  · exact ⟨1, by omega, by omega, h1⟩
  by_cases h3 : kv X.pl i (y.drop j) 2 = Ed.C X.pl i (y.drop j)
  · exact ⟨2, by omega, by omega, h3⟩
  by_cases h4 : kv X.pl i (y.drop j) 3 = Ed.C X.pl i (y.drop j)
  · exact ⟨3, by omega, by omega, h4⟩
  exact ⟨4, by omega, by omega, by omega⟩
theorem stk_len (I : Ed.In) (i : Nat) (ys : List Int) (k : Nat) : (stk I i ys k).length ≤ 1 := by
  unfold stk; split
  · exact (Ed.st1_shape I i ys).1
  · exact (Ed.st2_shape I i).1
  · exact (Ed.st3_shape I ys).1
  · exact (Ed.st4_shape I i ys).1
  · simp
theorem stk_one {I : Ed.In} {i : Nat} {ys : List Int} {k : Nat} (h : kv I i ys k < 1099511627776) : ∃ s, stk I i ys k = [s] := by
  have hl := stk_len I i ys k
  match hs : stk I i ys k, hl with
  | [], _ => rw [kv_nil hs] at h; omega
  | [s], _ => exact ⟨s, rfl⟩
theorem find_none {I : Ed.In} {i : Nat} {ys : List Int} {k : Nat} (h : kv I i ys k ≠ Ed.C I i ys) : (stk I i ys k).find? (Ed.good I i ys) = none := by
  have hl := stk_len I i ys k
  match hs : stk I i ys k, hl with
  | [], _ => rfl
  | [s], _ =>
    rw [kv_one hs] at h
    rw [List.find?_cons, show Ed.good I i ys s = false from decide_eq_false h]; rfl
theorem find_one {I : Ed.In} {i : Nat} {ys : List Int} {k : Nat} {s : Ed.Stp} (hs : stk I i ys k = [s]) (h : kv I i ys k = Ed.C I i ys) : (stk I i ys k).find? (Ed.good I i ys) = some s := by
  rw [kv_one hs] at h
  rw [hs, List.find?_cons, show Ed.good I i ys s = true from decide_eq_true h]
theorem sel {X : Inp} {i j k : Nat} {y : List Int} (hk1 : 1 ≤ k) (hk4 : k ≤ 4) (hmin : ∀ k', 1 ≤ k' → k' < k → kv X.pl i (y.drop j) k' ≠ Ed.C X.pl i (y.drop j)) (h : kv X.pl i (y.drop j) k = Ed.C X.pl i (y.drop j)) (hlt : Ed.C X.pl i (y.drop j) < 1099511627776) :
    ∃ s, stk X.pl i (y.drop j) k = [s] ∧ (Ed.steps X.pl i (y.drop j)).find? (Ed.good X.pl i (y.drop j)) = some s := by
  obtain ⟨s, hs⟩ := stk_one (show kv X.pl i (y.drop j) k < 1099511627776 by omega)
  refine ⟨s, hs, ?_⟩
  have h1 := find_one hs h
  have hst : Ed.steps X.pl i (y.drop j) = stk X.pl i (y.drop j) 1 ++ (stk X.pl i (y.drop j) 2 ++ (stk X.pl i (y.drop j) 3 ++ stk X.pl i (y.drop j) 4)) := rfl
  rw [hst, List.find?_append, List.find?_append, List.find?_append]
  have hk : k = 1 ∨ k = 2 ∨ k = 3 ∨ k = 4 := by omega
  rcases hk with rfl | rfl | rfl | rfl
  · rw [h1]; rfl
  · rw [find_none (hmin 1 (by omega) (by omega)), h1]; rfl
  · rw [find_none (hmin 1 (by omega) (by omega)), find_none (hmin 2 (by omega) (by omega)), h1]; rfl
  · rw [find_none (hmin 1 (by omega) (by omega)), find_none (hmin 2 (by omega) (by omega)), find_none (hmin 3 (by omega) (by omega)), h1]; rfl
theorem is1 {I : Ed.In} {i : Nat} {ys : List Int} {s : Ed.Stp} (h : stk I i ys 1 = [s]) : ∃ u r, ys = u :: r ∧ s.op = ⟨1, u⟩ ∧ s.tok = 1 ∧ s.emi = 1 := by
  have h : Ed.st1 I i ys = [s] := h
  unfold Ed.st1 at h
  split at h
  · split at h
    · split at h
      · injection h with h; subst h; exact ⟨_, _, rfl, rfl, rfl, rfl⟩
      · cases h
    · cases h
  · cases h
theorem is2 {I : Ed.In} {i : Nat} {ys : List Int} {s : Ed.Stp} (h : stk I i ys 2 = [s]) : s.op = ⟨2, 0⟩ ∧ s.tok = 1 ∧ s.emi = 0 := by
  have h : Ed.st2 I i = [s] := h
  unfold Ed.st2 at h
  split at h
  · split at h
    · injection h with h; subst h; exact ⟨rfl, rfl, rfl⟩
    · cases h
  · cases h
theorem is3 {I : Ed.In} {i : Nat} {ys : List Int} {s : Ed.Stp} (h : stk I i ys 3 = [s]) : ∃ u r, ys = u :: r ∧ s.op = ⟨3, u⟩ ∧ s.tok = 0 ∧ s.emi = 1 := by
  have h : Ed.st3 I ys = [s] := h
  unfold Ed.st3 at h
  split at h
  · split at h
    · injection h with h; subst h; exact ⟨_, _, rfl, rfl, rfl, rfl⟩
    · cases h
  · cases h
theorem is4 {I : Ed.In} {i : Nat} {ys : List Int} {s : Ed.Stp} (h : stk I i ys 4 = [s]) : s.op = ⟨4, 0⟩ ∧ s.tok = 2 ∧ s.emi = 2 := by
  have h : Ed.st4 I i ys = [s] := h
  unfold Ed.st4 at h
  split at h
  · split at h
    · injection h with h; subst h; exact ⟨rfl, rfl, rfl⟩
    · cases h
  · cases h
theorem drop_cons {y : List Int} {j : Nat} {u : Int} {r : List Int} (h : y.drop j = u :: r) : y[j]? = some u := by
  have := congrArg (fun l => l[0]?) h
  rw [List.getElem?_drop] at this; exact this
theorem align2_ok (X : Inp) (hX : X.small) (w : World) (hM : X.mem w) (hO : Ed.Okin X.pl) (hn : X.xs.length ≤ 1000) (C : Option Addr) (e : Nat) (y : List Int) (hl : y.length ≤ 1000) (hY : Sl 1 intF C y w) :
   Calls Tryd.prog 23 #[.agg #[.slice X.A X.xs.length X.c, .slice X.B X.ins.length X.d, .int .i64 X.sw], .slice C y.length e] w (Ret fun v w' => AlR w w' v (alg X y)) := by
 refine calls_fx (l := [.agg #[.slice X.A X.xs.length X.c, .slice X.B X.ins.length X.d, .int .i64 X.sw], .slice C y.length e]) Tryd.func23 rfl Tryd.ntmps23 (Nat.le_of_ble_eq_true rfl) ((X.start hM).old hY (dep_sl (by decide) hY)) ?_
 refine c_seq ?_
 refine c_reg ?_
 refine l_box (by decide) rfl _ rfl (fun b2 => ?_)
 refine l_q (by decide) (p_assign rfl).q ?_
 refine l_q (by decide) (p_assign (v := .int .i64 ((0 : Nat) : Int)) rfl).q ?_
 refine l_nil ?_
 refine c_seq ?_
 refine c_seq ?_
 refine c_reg ?_
 first | refine l_q (by decide) (r_loada Tryd.underlying25 rfl inf_25 rfl (by first | exact .fact (by repeat constructor) | exact .own (by repeat constructor) (by decide) (fun _ => rfl) | exact SlIn.reads (by repeat constructor) (by assumption) | exact SlIn.tab1 (by repeat constructor) | exact SlIn.tab2 (by repeat constructor) (by assumption)) (by assumption)).q ?_ | refine l_q (by decide) (r_loadow Tryd.underlying25 rfl inf_25 rfl (by repeat constructor) (by rfl)).q ?_ | refine l_q (by decide) (r_loadoa Tryd.underlying25 rfl inf_25 rfl (by repeat constructor) (by rfl) (fun j u h => h)).q ?_
 refine l_q (by decide) (p_move rfl).q ?_
 refine l_q (by decide) (q_call call_22 rfl (fun w hs => terminals_ok X hX w (X.of hs (by repeat constructor) (by repeat constructor) (by repeat constructor)) C e y (by omega) (hs.facts (Sl 1 intF C y) (by repeat constructor)).1)) ?_
 first | refine l_q (by decide) (p_notd rfl).q ?_ | refine l_q (by decide) (p_not rfl).q ?_
 refine l_nil ?_
 first | refine c_dec rfl (fun h16 => ?_) (fun h16 => ?_) | refine c_cond rfl (fun h16 => ?_) (fun h16 => ?_)
 ·skip
  refine c_seq ?_
  refine c_reg ?_
  refine l_q (by decide) (p_assign rfl).q ?_
  refine l_q (by decide) (p_assign (v := .int .i64 ((1 : Nat) : Int)) rfl).q ?_
  refine l_nil ?_
  refine c_ret ?_
  refine c_ret2 rfl rfl rfl (fun w hs => ?_)
  exact (by rw [alg_no (fun h => by rw [dec_true (p := ∀ t, t ∈ y → 0 ≤ t ∧ t < (X.ins.length : Int)) h] at h16; cases h16)]; exact al_none hs.ext)
 ·skip
  refine c_skip ?_
  refine c_seq ?_
  refine c_reg ?_
  refine l_q (by decide) (p_move rfl).q ?_
  refine l_q (by decide) (p_len_sl Tryd.underlying23 rfl).q ?_
  first | refine l_q (by decide) (p_add (j := 1) rfl rfl rfl rfl (by show _ ≤ (9223372036854775807 : Nat); omega)).q ?_ | refine l_q (by decide) (p_addi rfl rfl (by show (-9223372036854775808 : Int) ≤ _; omega) (by show _ ≤ ((9223372036854775807 : Nat) : Int); omega)).q ?_
  refine l_q (by decide) (p_assign rfl).q ?_
  refine l_nil ?_
  refine c_seq ?_
  refine c_reg ?_
  first | refine l_q (by decide) (r_loada Tryd.underlying25 rfl inf_25 rfl (by first | exact .fact (by repeat constructor) | exact .own (by repeat constructor) (by decide) (fun _ => rfl) | exact SlIn.reads (by repeat constructor) (by assumption) | exact SlIn.tab1 (by repeat constructor) | exact SlIn.tab2 (by repeat constructor) (by assumption)) (by assumption)).q ?_ | refine l_q (by decide) (r_loadow Tryd.underlying25 rfl inf_25 rfl (by repeat constructor) (by rfl)).q ?_ | refine l_q (by decide) (r_loadoa Tryd.underlying25 rfl inf_25 rfl (by repeat constructor) (by rfl) (fun j u h => h)).q ?_
  refine l_q (by decide) (p_move rfl).q ?_
  have hy : Prp X y := of_dec (p := ∀ t, t ∈ y → 0 ≤ t ∧ t < (X.ins.length : Int)) (by simpa using h16)
  refine l_call (X := Flat X y) (fun x => .slice x.A x.tb.length x.c) (fun x => Sl 1 intF x.A x.tb) (by decide) call_32 rfl (fun w hs => flat_ok X hX w (X.of hs (by repeat constructor) (by repeat constructor) (by repeat constructor)) hO hn C e y hl (hs.facts (Sl 1 intF C y) (by repeat constructor)).1 hy) (fun x22 => ?_)
  have h0 : x22.tb[0]? = some (Ed.C X.pl 0 y) := by have := x22.full.2 0 0 (Nat.zero_le _) (Nat.zero_le _) (.inl (Nat.zero_le _)); rwa [Nat.zero_mul] at this
  have hl0 := at_lt h0
  refine l_q (by decide) (p_assign rfl).q ?_
  refine l_nil ?_
  refine c_seq ?_
  refine c_seq ?_
  refine c_reg ?_
  refine l_q (by decide) (p_move rfl).q ?_
  first | refine l_q (by decide) (r_index (j := 0) Tryd.underlying23 inf_3 rfl rfl rfl (by first | exact .fact (by repeat constructor) | exact .own (by repeat constructor) (by decide) (fun _ => rfl) | exact SlIn.reads (by repeat constructor) (by assumption) | exact SlIn.tab1 (by repeat constructor) | exact SlIn.tab2 (by repeat constructor) (by assumption)) rfl (by omega)).q ?_ | refine l_q (by decide) (r_index (j := 0) Tryd.underlying23 inf_3 rfl rfl rfl (by first | exact .fact (by repeat constructor) | exact .own (by repeat constructor) (by decide) (fun _ => rfl) | exact SlIn.reads (by repeat constructor) (by assumption) | exact SlIn.tab1 (by repeat constructor) | exact SlIn.tab2 (by repeat constructor) (by assumption)) rfl (by decide)).q ?_ | refine l_q (by decide) (p_indexo (j := 0) Tryd.underlying23 inf_3 rfl rfl rfl (by omega)).q ?_
  first | refine l_q (by decide) (r_loado Tryd.underlying3 rfl rfl (by repeat constructor) (by rfl)).q ?_ | refine l_q (by decide) (r_load1 Tryd.underlying3 rfl rfl (by first | exact .fact (by repeat constructor) | exact .own (by repeat constructor) (by decide) (fun _ => rfl) | exact SlIn.reads (by repeat constructor) (by assumption) | exact SlIn.tab1 (by repeat constructor) | exact SlIn.tab2 (by repeat constructor) (by assumption)) (by first | assumption | rfl) (by rfl)).q ?_ | refine l_q (by decide) (r_loadf Tryd.underlying3 rfl rfl (by first | exact .fact (by repeat constructor) | exact .own (by repeat constructor) (by decide) (fun _ => rfl) | exact SlIn.reads (by repeat constructor) (by assumption) | exact SlIn.tab1 (by repeat constructor) | exact SlIn.tab2 (by repeat constructor) (by assumption)) (by assumption) (by rfl)).q ?_
  first | refine l_q (by decide) (p_geq (j := 1099511627776) rfl rfl rfl rfl).q ?_ | refine l_q (by decide) (p_geqi rfl rfl).q ?_
  refine l_nil ?_
  first | refine c_dec rfl (fun h26 => ?_) (fun h26 => ?_) | refine c_cond rfl (fun h26 => ?_) (fun h26 => ?_)
  ·skip
   have hlt : ¬ Ed.C X.pl 0 y < 1099511627776 := by have h26 : Ed.C X.pl 0 y ≥ 1099511627776 := h26; omega
   refine c_seq ?_
   refine c_reg ?_
   refine l_q (by decide) (p_assign rfl).q ?_
   refine l_q (by decide) (p_assign (v := .int .i64 ((6 : Nat) : Int)) rfl).q ?_
   refine l_nil ?_
   refine c_ret ?_
   refine c_ret2 rfl rfl rfl (fun w hs => ?_)
   exact (by rw [alg_far hy (by omega)]; exact al_none hs.ext)
  ·skip
   have hlt : Ed.C X.pl 0 y < 1099511627776 := by have h26 : ¬ Ed.C X.pl 0 y ≥ 1099511627776 := h26; omega
   refine c_skip ?_
   refine c_seq ?_
   refine c_reg ?_
   refine l_q (by decide) (p_assign rfl).q ?_
   refine l_nil ?_
   refine c_seq ?_
   refine c_reg ?_
   refine l_q (by decide) (p_assign (v := .int .i64 ((0 : Nat) : Int)) rfl).q ?_
   refine l_q (by decide) (p_assign (v := .int .i64 ((0 : Nat) : Int)) rfl).q ?_
   refine l_nil ?_
   refine c_seq ?_
   refine c_block ?_
   refine c_sl0 46 2 opF ?_
   refine c_loop (S := Nat × Nat × List Ed.Op × Option Addr × Nat) (fun zs => AlgI X y zs.2.2.1 zs.1 zs.2.1) (fun zs => (X.xs.length - zs.1) + (y.length - zs.2.1)) (fun zs => [(1, .slice C y.length e), (2, .pointer (some ⟨b2, 0, none⟩)), (6, .int .i64 ((y.length + 1 : Nat) : Int)), (7, .slice x22.A x22.tb.length x22.c), (8, .slice zs.2.2.2.1 zs.2.2.1.length zs.2.2.2.2), (9, .int .i64 (zs.1 : Int)), (10, .int .i64 (zs.2.1 : Int))]) (fun zs => [iSl 46 2 opF zs.2.2.2.1 zs.2.2.2.2 zs.2.2.1, iCells b2 25 [.slice X.A X.xs.length X.c, .slice X.B X.ins.length X.d, .int .i64 X.sw]]) (fun zs => (Sl 1 intF x22.A x22.tb :: (Sl 1 intF C y :: [Rd X.xs, Sl 1 intF X.B X.ins, Sl 3 colF X.A X.xs]))) (0, 0, [], none, 0) ?_ ?_ ?_ ?_ ?_
   · show AlgI X y ([]) (0) (0)
     exact ⟨Nat.zero_le _, Nat.zero_le _, hlt, rfl, Nat.le_refl _⟩
   · exact ⟨rfl, rfl, rfl, rfl, rfl, rfl, rfl, trivial⟩
   · exact .refl _
   · exact fun _ h => h
   rintro ⟨i, j, o, A1, d1⟩ hinv
   have hinv : AlgI X y o i j := hinv
   have hA := hinv
   show Cont _ _ _ _ [(1, .slice C y.length e), (2, .pointer (some ⟨b2, 0, none⟩)), (6, .int .i64 ((y.length + 1 : Nat) : Int)), (7, .slice x22.A x22.tb.length x22.c), (8, .slice A1 o.length d1), (9, .int .i64 (i : Int)), (10, .int .i64 (j : Int))] ([iSl 46 2 opF A1 d1 o, iCells b2 25 [.slice X.A X.xs.length X.c, .slice X.B X.ins.length X.d, .int .i64 X.sw]]) (Sl 1 intF x22.A x22.tb :: (Sl 1 intF C y :: [Rd X.xs, Sl 1 intF X.B X.ins, Sl 3 colF X.A X.xs]))
   refine c_seq ?_
   refine c_seq ?_
   refine c_meetn (S := Unit) (fun zs => True) (fun zs => [(1, .slice C y.length e), (2, .pointer (some ⟨b2, 0, none⟩)), (6, .int .i64 ((y.length + 1 : Nat) : Int)), (7, .slice x22.A x22.tb.length x22.c), (8, .slice A1 o.length d1), (9, .int .i64 (i : Int)), (10, .int .i64 (j : Int)), (37, .bool (decide (i < X.xs.length ∨ j < y.length)))]) (fun zs => [iSl 46 2 opF A1 d1 o, iCells b2 25 [.slice X.A X.xs.length X.c, .slice X.B X.ins.length X.d, .int .i64 X.sw]]) (fun zs => (Sl 1 intF x22.A x22.tb :: (Sl 1 intF C y :: [Rd X.xs, Sl 1 intF X.B X.ins, Sl 3 colF X.A X.xs]))) ?_ ?_
   ·skip
    refine c_reg ?_
    refine l_q (by decide) (p_move rfl).q ?_
    first | refine l_q (by decide) (p_faddr (i := 0) 0 Tryd.underlying25 rfl inf_22 (by decide) rfl rfl).q ?_ | refine l_q (by decide) (p_faddro (i := 0) 0 Tryd.underlying25 rfl inf_22 (by decide) rfl rfl).q ?_
    first | refine l_q (by decide) (r_loado Tryd.underlying22 rfl rfl (by repeat constructor) (by rfl)).q ?_ | refine l_q (by decide) (r_load1 Tryd.underlying22 rfl rfl (by first | exact .fact (by repeat constructor) | exact .own (by repeat constructor) (by decide) (fun _ => rfl) | exact SlIn.reads (by repeat constructor) (by assumption) | exact SlIn.tab1 (by repeat constructor) | exact SlIn.tab2 (by repeat constructor) (by assumption)) (by first | assumption | rfl) (by rfl)).q ?_ | refine l_q (by decide) (r_loadf Tryd.underlying22 rfl rfl (by first | exact .fact (by repeat constructor) | exact .own (by repeat constructor) (by decide) (fun _ => rfl) | exact SlIn.reads (by repeat constructor) (by assumption) | exact SlIn.tab1 (by repeat constructor) | exact SlIn.tab2 (by repeat constructor) (by assumption)) (by assumption) (by rfl)).q ?_
    refine l_q (by decide) (p_len_sl Tryd.underlying22 rfl).q ?_
    first | refine l_q (by decide) (p_lss rfl rfl rfl rfl).q ?_ | refine l_q (by decide) (p_lssi rfl rfl).q ?_
    refine l_q (by decide) (p_move rfl).q ?_
    first | refine l_splitd (t := 32) rfl (fun h32 => ?_) (fun h32 => ?_) | refine l_splitb (t := 32) rfl (fun h32 => ?_) (fun h32 => ?_)
    ·skip
     refine l_off (j := 5) rfl rfl (by first | (simp; done) | (simp [undef]; done)) (by decide) ?_
     refine l_off (j := 5) rfl rfl (by first | (simp; done) | (simp [undef]; done)) (by decide) ?_
     refine l_off (j := 5) rfl rfl (by first | (simp; done) | (simp [undef]; done)) (by decide) ?_
     refine l_off (j := 5) rfl rfl (by first | (simp; done) | (simp [undef]; done)) (by decide) ?_
     refine l_q (by decide) (p_pick rfl rfl).q ?_
     refine l_nil ?_
     refine c_join (()) ?inv ?sub ?perm ?facts
     case sub => exact ⟨rfl, rfl, rfl, rfl, rfl, rfl, rfl, (by first | rfl | exact congrArg (fun b => some (Value.bool b)) (decide_eq_true (by omega)).symm | exact congrArg (fun b => some (Value.bool b)) (decide_eq_false (by omega)).symm | exact congrArg (fun b => some (Value.bool b)) (decide_eq_decide.2 (by omega))), trivial⟩
     case perm =>
      exact .refl _
     case facts => exact fun _ h => h
     case inv =>
      trivial
    ·skip
     refine l_g (j := 5) rfl rfl (by decide) (p_move rfl).q ?_
     refine l_g (j := 5) rfl rfl (by decide) (p_move rfl).q ?_
     refine l_g (j := 5) rfl rfl (by decide) (p_len_sl Tryd.underlying23 rfl).q ?_
     first | refine l_g (j := 5) rfl rfl (by decide) (p_lss rfl rfl rfl rfl).q ?_ | refine l_g (j := 5) rfl rfl (by decide) (p_lssi rfl rfl).q ?_
     refine l_q (by decide) (p_pick rfl rfl).q ?_
     refine l_nil ?_
     refine c_join (()) ?inv ?sub ?perm ?facts
     case sub => exact ⟨rfl, rfl, rfl, rfl, rfl, rfl, rfl, (by first | rfl | exact congrArg (fun b => some (Value.bool b)) (decide_eq_true (by omega)).symm | exact congrArg (fun b => some (Value.bool b)) (decide_eq_false (by omega)).symm | exact congrArg (fun b => some (Value.bool b)) (decide_eq_decide.2 (by omega))), trivial⟩
     case perm =>
      exact .refl _
     case facts => exact fun _ h => h
     case inv =>
      trivial
   rintro uu hmeet
   show Cont _ _ _ _ [(1, .slice C y.length e), (2, .pointer (some ⟨b2, 0, none⟩)), (6, .int .i64 ((y.length + 1 : Nat) : Int)), (7, .slice x22.A x22.tb.length x22.c), (8, .slice A1 o.length d1), (9, .int .i64 (i : Int)), (10, .int .i64 (j : Int)), (37, .bool (decide (i < X.xs.length ∨ j < y.length)))] ([iSl 46 2 opF A1 d1 o, iCells b2 25 [.slice X.A X.xs.length X.c, .slice X.B X.ins.length X.d, .int .i64 X.sw]]) (Sl 1 intF x22.A x22.tb :: (Sl 1 intF C y :: [Rd X.xs, Sl 1 intF X.B X.ins, Sl 3 colF X.A X.xs]))
   first | refine c_dec rfl (fun h37 => ?_) (fun h37 => ?_) | refine c_cond rfl (fun h37 => ?_) (fun h37 => ?_)
   ·skip
    refine c_skip ?_
    refine c_block ?_
    refine c_seq ?_
    refine c_reg ?_
    refine l_q (by decide) (p_assign (v := .int .i64 ((1 : Nat) : Int)) rfl).q ?_
    refine l_nil ?_
    refine c_seq ?_
    refine c_block ?_
    refine c_loop (S := Nat) (fun zs => 1 ≤ zs ∧ zs ≤ 4 ∧ ∀ k2, 1 ≤ k2 → k2 < zs → kv X.pl i (y.drop j) k2 ≠ Ed.C X.pl i (y.drop j)) (fun zs => 4 - zs) (fun zs => [(1, .slice C y.length e), (2, .pointer (some ⟨b2, 0, none⟩)), (6, .int .i64 ((y.length + 1 : Nat) : Int)), (7, .slice x22.A x22.tb.length x22.c), (8, .slice A1 o.length d1), (9, .int .i64 (i : Int)), (10, .int .i64 (j : Int)), (11, .int .i64 (zs : Int))]) (fun zs => [iSl 46 2 opF A1 d1 o, iCells b2 25 [.slice X.A X.xs.length X.c, .slice X.B X.ins.length X.d, .int .i64 X.sw]]) (fun zs => (Sl 1 intF x22.A x22.tb :: (Sl 1 intF C y :: [Rd X.xs, Sl 1 intF X.B X.ins, Sl 3 colF X.A X.xs]))) (1) ?_ ?_ ?_ ?_ ?_
    · show 1 ≤ (1) ∧ (1) ≤ 4 ∧ ∀ k2, 1 ≤ k2 → k2 < (1) → kv X.pl i (y.drop j) k2 ≠ Ed.C X.pl i (y.drop j)
      exact ⟨Nat.le_refl _, by omega, fun k2 h h2 => by omega⟩
    · exact ⟨rfl, rfl, rfl, rfl, rfl, rfl, rfl, rfl, trivial⟩
    · exact .refl _
    · exact fun _ h => h
    rintro k hinv
    have hinv : 1 ≤ k ∧ k ≤ 4 ∧ ∀ k2, 1 ≤ k2 → k2 < k → kv X.pl i (y.drop j) k2 ≠ Ed.C X.pl i (y.drop j) := hinv
    obtain ⟨hk1, hk4, hmin⟩ := hinv
    have hAi := hA.hi
    have hAj := hA.hj
    have htb : x22.tb[i * (y.length + 1) + j]? = some (Ed.C X.pl i (y.drop j)) := x22.full.2 i j hA.hi hA.hj (.inl (Nat.zero_le _))
    have htl := at_lt htb
    have hmu : i * (y.length + 1) ≤ 1001 * 1001 := Nat.mul_le_mul (by omega) (by omega)
    show Cont _ _ _ _ [(1, .slice C y.length e), (2, .pointer (some ⟨b2, 0, none⟩)), (6, .int .i64 ((y.length + 1 : Nat) : Int)), (7, .slice x22.A x22.tb.length x22.c), (8, .slice A1 o.length d1), (9, .int .i64 (i : Int)), (10, .int .i64 (j : Int)), (11, .int .i64 (k : Int))] ([iSl 46 2 opF A1 d1 o, iCells b2 25 [.slice X.A X.xs.length X.c, .slice X.B X.ins.length X.d, .int .i64 X.sw]]) (Sl 1 intF x22.A x22.tb :: (Sl 1 intF C y :: [Rd X.xs, Sl 1 intF X.B X.ins, Sl 3 colF X.A X.xs]))
    refine c_seq ?_
    refine c_seq ?_
    refine c_draw mixed (by decide +kernel) ?_
    first | refine q_q (by decide) (r_loada Tryd.underlying25 rfl inf_25 rfl (by first | exact .fact (by repeat constructor) | exact .own (by repeat constructor) (by decide) (fun _ => rfl) | exact SlIn.reads (by repeat constructor) (by assumption) | exact SlIn.tab1 (by repeat constructor) | exact SlIn.tab2 (by repeat constructor) (by assumption)) (by assumption)).q ?_ | refine q_q (by decide) (r_loadow Tryd.underlying25 rfl inf_25 rfl (by repeat constructor) (by rfl)).q ?_ | refine q_q (by decide) (r_loadoa Tryd.underlying25 rfl inf_25 rfl (by repeat constructor) (by rfl) (fun j u h => h)).q ?_
    refine q_q (by decide) (p_move rfl).q ?_
    refine q_q (by decide) (p_move rfl).q ?_
    refine q_q (by decide) (p_move rfl).q ?_
    refine q_q (by decide) (p_move rfl).q ?_
    refine q_q (by decide) (p_move rfl).q ?_
    refine q_q (by decide) (p_move rfl).q ?_
    refine q_q (by decide) (q_call call_37 rfl (fun w hs => step_ok X hX w (X.of hs (by repeat constructor) (by repeat constructor) (by repeat constructor)) hO hn C e y hl (hs.facts (Sl 1 intF C y) (by repeat constructor)).1 hy x22.A x22.c x22.tb (hs.facts (Sl 1 intF x22.A x22.tb) (by repeat constructor)).1 i j k hA.hi hA.hj (x22.full.mono (fun a b hb hc => .inl (Nat.zero_le _))) hk1 hk4)) ?_
    refine q_q (by decide) (p_move rfl).q ?_
    refine q_q (by decide) (p_move rfl).q ?_
    refine q_q (by decide) (p_move rfl).q ?_
    refine q_q (by decide) (p_mul rfl rfl rfl rfl (by show _ ≤ (9223372036854775807 : Nat); omega)).q ?_
    refine q_q (by decide) (p_move rfl).q ?_
    first | refine q_q (by decide) (p_add rfl rfl rfl rfl (by show _ ≤ (9223372036854775807 : Nat); omega)).q ?_ | refine q_q (by decide) (p_addi rfl rfl (by show (-9223372036854775808 : Int) ≤ _; omega) (by show _ ≤ ((9223372036854775807 : Nat) : Int); omega)).q ?_
    first | refine q_q (by decide) (r_index Tryd.underlying23 inf_3 rfl rfl rfl (by first | exact .fact (by repeat constructor) | exact .own (by repeat constructor) (by decide) (fun _ => rfl) | exact SlIn.reads (by repeat constructor) (by assumption) | exact SlIn.tab1 (by repeat constructor) | exact SlIn.tab2 (by repeat constructor) (by assumption)) rfl (by omega)).q ?_ | refine q_q (by decide) (r_index Tryd.underlying23 inf_3 rfl rfl rfl (by first | exact .fact (by repeat constructor) | exact .own (by repeat constructor) (by decide) (fun _ => rfl) | exact SlIn.reads (by repeat constructor) (by assumption) | exact SlIn.tab1 (by repeat constructor) | exact SlIn.tab2 (by repeat constructor) (by assumption)) rfl (by decide)).q ?_ | refine q_q (by decide) (p_indexo Tryd.underlying23 inf_3 rfl rfl rfl (by omega)).q ?_
    first | refine q_q (by decide) (r_loado Tryd.underlying3 rfl rfl (by repeat constructor) (by rfl)).q ?_ | refine q_q (by decide) (r_load1 Tryd.underlying3 rfl rfl (by first | exact .fact (by repeat constructor) | exact .own (by repeat constructor) (by decide) (fun _ => rfl) | exact SlIn.reads (by repeat constructor) (by assumption) | exact SlIn.tab1 (by repeat constructor) | exact SlIn.tab2 (by repeat constructor) (by assumption)) (by first | assumption | rfl) (by rfl)).q ?_ | refine q_q (by decide) (r_loadf Tryd.underlying3 rfl rfl (by first | exact .fact (by repeat constructor) | exact .own (by repeat constructor) (by decide) (fun _ => rfl) | exact SlIn.reads (by repeat constructor) (by assumption) | exact SlIn.tab1 (by repeat constructor) | exact SlIn.tab2 (by repeat constructor) (by assumption)) (by assumption) (by rfl)).q ?_
    first | refine q_q (by decide) (p_neq rfl rfl rfl rfl).q ?_ | refine q_q (by decide) (p_neqi rfl rfl).q ?_
    refine q_nil ?_
    first | refine c_dec rfl (fun h54 => ?_) (fun h54 => ?_) | refine c_cond rfl (fun h54 => ?_) (fun h54 => ?_)
    ·skip
     refine c_skip ?_
     refine c_block ?_
     refine c_reg ?_
     refine l_q (by decide) (p_move rfl).q ?_
     first | refine l_q (by decide) (p_add (j := 1) rfl rfl rfl rfl (by show _ ≤ (9223372036854775807 : Nat); omega)).q ?_ | refine l_q (by decide) (p_addi rfl rfl (by show (-9223372036854775808 : Int) ≤ _; omega) (by show _ ≤ ((9223372036854775807 : Nat) : Int); omega)).q ?_
     refine l_q (by decide) (p_assign rfl).q ?_
     refine l_nil ?_
     refine c_join ((k + 1)) ?_ ?_ ?_ ?_
     ·show (1 ≤ (k + 1) ∧ (k + 1) ≤ 4 ∧ ∀ k2, 1 ≤ k2 → k2 < (k + 1) → kv X.pl i (y.drop j) k2 ≠ Ed.C X.pl i (y.drop j)) ∧ 4 - (k + 1) < 4 - k
      have hk5 : k < 4 := by
        refine Classical.byContradiction fun h => ?_
        obtain ⟨k3, g1, g2, g3⟩ := kv_exists hA.hi hA.hj h37 hA.lt
        by_cases hkk : k3 = k
        · subst hkk; exact h54 g3
        · exact hmin k3 g1 (by omega) g3
      refine ⟨⟨by omega, by omega, fun k2 g1 g2 => ?_⟩, by omega⟩
      by_cases hkk : k2 = k
      · subst hkk; exact h54
      · exact hmin k2 g1 (by omega)
     · exact ⟨rfl, rfl, rfl, rfl, rfl, rfl, rfl, rfl, trivial⟩
     ·show List.Perm _ ([iSl 46 2 opF A1 d1 o, iCells b2 25 [.slice X.A X.xs.length X.c, .slice X.B X.ins.length X.d, .int .i64 X.sw]])
      exact .refl _
     · exact fun _ h => h
    ·skip
     obtain ⟨s, hsk, hfind⟩ := sel hk1 hk4 hmin (Classical.not_not.1 h54) hA.lt
     refine c_exit ?_
     refine c_here ?_
     refine c_seq ?_
     refine c_reg ?_
     refine l_q (by decide) (p_move rfl).q ?_
     refine l_q (by decide) (p_build (cells := #[_, _]) inf_46 pl_46 rfl rfl).q ?_
     refine l_alloc (by decide) inf_46 _ rfl (fun b12 => ?_)
     first | (refine l_storew inf_46 rfl rfl rfl rfl rfl ?_) | (refine l_perm (front1 _ _ _) ?_; refine l_storew inf_46 rfl rfl rfl rfl rfl ?_) | (refine l_perm (front2 _ _ _ _) ?_; refine l_storew inf_46 rfl rfl rfl rfl rfl ?_) | (refine l_perm (front3 _ _ _ _ _) ?_; refine l_storew inf_46 rfl rfl rfl rfl rfl ?_) | (refine l_perm (front4 _ _ _ _ _ _) ?_; refine l_storew inf_46 rfl rfl rfl rfl rfl ?_) | (refine l_storea inf_46 rfl rfl rfl rfl (by decide) ?_) | (refine l_perm (front1 _ _ _) ?_; refine l_storea inf_46 rfl rfl rfl rfl (by decide) ?_) | (refine l_perm (front2 _ _ _ _) ?_; refine l_storea inf_46 rfl rfl rfl rfl (by decide) ?_)
     refine l_nil ?_
     refine c_seq ?_
     refine c_seq ?_
     refine c_reg ?_
     refine l_q (by decide) (p_move rfl).q ?_
     refine l_nil ?_
     refine c_block ?_
     refine c_seq ?_
     refine c_reg ?_
     first | refine l_q (by decide) (p_eql (j := 1) rfl rfl rfl rfl).q ?_ | refine l_q (by decide) (p_eqli rfl rfl).q ?_
     refine l_q (by decide) (p_assign rfl).q ?_
     refine l_nil ?_
     first | refine c_dec rfl (fun h60 => ?_) (fun h60 => ?_) | refine c_cond rfl (fun h60 => ?_) (fun h60 => ?_)
     ·skip
      have hkk : k = 1 := h60
      obtain ⟨u, r, hdr, hso, hst, hse⟩ := is1 (by rw [← hkk]; exact hsk)
      have hu := drop_cons hdr
      have hul := at_lt hu
      have hkc : (k : Int) = 1 := by omega
      refine c_seq ?_
      refine c_reg ?_
      refine l_q (by decide) (p_move rfl).q ?_
      refine l_q (by decide) (p_move rfl).q ?_
      first | refine l_q (by decide) (r_index Tryd.underlying23 inf_3 rfl rfl rfl (by first | exact .fact (by repeat constructor) | exact .own (by repeat constructor) (by decide) (fun _ => rfl) | exact SlIn.reads (by repeat constructor) (by assumption) | exact SlIn.tab1 (by repeat constructor) | exact SlIn.tab2 (by repeat constructor) (by assumption)) rfl (by omega)).q ?_ | refine l_q (by decide) (r_index Tryd.underlying23 inf_3 rfl rfl rfl (by first | exact .fact (by repeat constructor) | exact .own (by repeat constructor) (by decide) (fun _ => rfl) | exact SlIn.reads (by repeat constructor) (by assumption) | exact SlIn.tab1 (by repeat constructor) | exact SlIn.tab2 (by repeat constructor) (by assumption)) rfl (by decide)).q ?_ | refine l_q (by decide) (p_indexo Tryd.underlying23 inf_3 rfl rfl rfl (by omega)).q ?_
      first | refine l_q (by decide) (r_loado Tryd.underlying3 rfl rfl (by repeat constructor) (by rfl)).q ?_ | refine l_q (by decide) (r_load1 Tryd.underlying3 rfl rfl (by first | exact .fact (by repeat constructor) | exact .own (by repeat constructor) (by decide) (fun _ => rfl) | exact SlIn.reads (by repeat constructor) (by assumption) | exact SlIn.tab1 (by repeat constructor) | exact SlIn.tab2 (by repeat constructor) (by assumption)) (by first | assumption | rfl) (by rfl)).q ?_ | refine l_q (by decide) (r_loadf Tryd.underlying3 rfl rfl (by first | exact .fact (by repeat constructor) | exact .own (by repeat constructor) (by decide) (fun _ => rfl) | exact SlIn.reads (by repeat constructor) (by assumption) | exact SlIn.tab1 (by repeat constructor) | exact SlIn.tab2 (by repeat constructor) (by assumption)) (by assumption) (by rfl)).q ?_
      first | refine l_q (by decide) (p_faddr (i := 1) 1 Tryd.underlying46 rfl inf_3 (by decide) rfl rfl).q ?_ | refine l_q (by decide) (p_faddro (i := 1) 1 Tryd.underlying46 rfl inf_3 (by decide) rfl rfl).q ?_
      first | (refine l_store inf_3 rfl rfl rfl rfl (by first | decide | exact Nat.le_of_ble_eq_true rfl | (simp; done) | omega | (simp only [Nat.mul_one]; assumption)) ?_) | (refine l_perm (front1 _ _ _) ?_; refine l_store inf_3 rfl rfl rfl rfl (by first | decide | exact Nat.le_of_ble_eq_true rfl | (simp; done) | omega | (simp only [Nat.mul_one]; assumption)) ?_) | (refine l_perm (front2 _ _ _ _) ?_; refine l_store inf_3 rfl rfl rfl rfl (by first | decide | exact Nat.le_of_ble_eq_true rfl | (simp; done) | omega | (simp only [Nat.mul_one]; assumption)) ?_) | (refine l_perm (front3 _ _ _ _ _) ?_; refine l_store inf_3 rfl rfl rfl rfl (by first | decide | exact Nat.le_of_ble_eq_true rfl | (simp; done) | omega | (simp only [Nat.mul_one]; assumption)) ?_) | (refine l_perm (front4 _ _ _ _ _ _) ?_; refine l_store inf_3 rfl rfl rfl rfl (by first | decide | exact Nat.le_of_ble_eq_true rfl | (simp; done) | omega | (simp only [Nat.mul_one]; assumption)) ?_)
      refine l_nil ?_
      refine c_reg ?_
      refine l_q (by decide) (p_move rfl).q ?_
      first | refine l_q (by decide) (p_add (j := 1) rfl rfl rfl rfl (by show _ ≤ (9223372036854775807 : Nat); omega)).q ?_ | refine l_q (by decide) (p_addi rfl rfl (by show (-9223372036854775808 : Int) ≤ _; omega) (by show _ ≤ ((9223372036854775807 : Nat) : Int); omega)).q ?_
      refine l_q (by decide) (p_move rfl).q ?_
      first | refine l_q (by decide) (p_add (j := 1) rfl rfl rfl rfl (by show _ ≤ (9223372036854775807 : Nat); omega)).q ?_ | refine l_q (by decide) (p_addi rfl rfl (by show (-9223372036854775808 : Int) ≤ _; omega) (by show _ ≤ ((9223372036854775807 : Nat) : Int); omega)).q ?_
      refine l_q (by decide) (p_assign rfl).q ?_
      refine l_q (by decide) (p_assign rfl).q ?_
      refine l_nil ?_
      refine c_reg ?_
      refine l_q (by decide) (p_move rfl).q ?_
      first | refine l_q (by decide) (r_loada Tryd.underlying46 rfl inf_46 rfl (by first | exact .fact (by repeat constructor) | exact .own (by repeat constructor) (by decide) (fun _ => rfl) | exact SlIn.reads (by repeat constructor) (by assumption) | exact SlIn.tab1 (by repeat constructor) | exact SlIn.tab2 (by repeat constructor) (by assumption)) (by assumption)).q ?_ | refine l_q (by decide) (r_loadow Tryd.underlying46 rfl inf_46 rfl (by repeat constructor) (by rfl)).q ?_ | refine l_q (by decide) (r_loadoa Tryd.underlying46 rfl inf_46 rfl (by repeat constructor) (by rfl) (fun j u h => h)).q ?_
      refine l_buildSlice (by decide) Tryd.underlying26 inf_46 (by decide) (by decide) rfl rfl rfl rfl (fun b92 => ?_)
      first | (refine l_append1 ((⟨(k : Int), u⟩ : Ed.Op)) (by decide) Tryd.underlying26 inf_46 rfl (by decide) rfl rfl rfl rfl rfl rfl (by have := hA.n; omega) (by have := hA.n; omega) (fun A93 c93 hA93 => ?_)) | (refine l_perm (.cons _ (front1 _ _ _)) ?_; refine l_append1 ((⟨(k : Int), u⟩ : Ed.Op)) (by decide) Tryd.underlying26 inf_46 rfl (by decide) rfl rfl rfl rfl rfl rfl (by have := hA.n; omega) (by have := hA.n; omega) (fun A93 c93 hA93 => ?_)) | (refine l_perm (.cons _ (front2 _ _ _ _)) ?_; refine l_append1 ((⟨(k : Int), u⟩ : Ed.Op)) (by decide) Tryd.underlying26 inf_46 rfl (by decide) rfl rfl rfl rfl rfl rfl (by have := hA.n; omega) (by have := hA.n; omega) (fun A93 c93 hA93 => ?_))
      refine l_q (by decide) (p_assign rfl).q ?_
      refine l_nil ?_
      first | (refine c_drop (x := iCells b12 _ _) ?_) | (refine c_perm (front1 _ _ _) ?_; refine c_drop (x := iCells b12 _ _) ?_) | (refine c_perm (front2 _ _ _ _) ?_; refine c_drop (x := iCells b12 _ _) ?_) | (refine c_perm (front3 _ _ _ _ _) ?_; refine c_drop (x := iCells b12 _ _) ?_) | (refine c_perm (front4 _ _ _ _ _ _) ?_; refine c_drop (x := iCells b12 _ _) ?_)
      refine c_join ((i + 1), (j + 1), (o ++ [⟨(k : Int), u⟩]), (A93), (c93)) ?_ ?_ ?_ ?_
      ·show (AlgI X y (o ++ [⟨(k : Int), u⟩]) (i + 1) (j + 1)) ∧ (X.xs.length - (i + 1)) + (y.length - (j + 1)) < (X.xs.length - i) + (y.length - j)
       have hn := hA.next hO h37 hfind
       rw [hso, hst, hse, ← hkc] at hn
       exact hn
      · exact ⟨rfl, rfl, rfl, rfl, rfl, rfl, rfl, trivial⟩
      ·show List.Perm _ ([iSl 46 2 opF (A93) (c93) (o ++ [⟨(k : Int), u⟩]), iCells b2 25 [.slice X.A X.xs.length X.c, .slice X.B X.ins.length X.d, .int .i64 X.sw]])
       exact .refl _
      · simp
     ·skip
      refine c_seq ?_
      refine c_reg ?_
      first | refine l_q (by decide) (p_eql (j := 2) rfl rfl rfl rfl).q ?_ | refine l_q (by decide) (p_eqli rfl rfl).q ?_
      refine l_q (by decide) (p_assign rfl).q ?_
      refine l_nil ?_
      first | refine c_dec rfl (fun h71 => ?_) (fun h71 => ?_) | refine c_cond rfl (fun h71 => ?_) (fun h71 => ?_)
      ·skip
       have hkk : k = 2 := h71
       obtain ⟨hso, hst, hse⟩ := is2 (by rw [← hkk]; exact hsk)
       have hkc : (k : Int) = 2 := by omega
       refine c_reg ?_
       refine l_q (by decide) (p_move rfl).q ?_
       first | refine l_q (by decide) (p_add (j := 1) rfl rfl rfl rfl (by show _ ≤ (9223372036854775807 : Nat); omega)).q ?_ | refine l_q (by decide) (p_addi rfl rfl (by show (-9223372036854775808 : Int) ≤ _; omega) (by show _ ≤ ((9223372036854775807 : Nat) : Int); omega)).q ?_
       refine l_q (by decide) (p_assign rfl).q ?_
       refine l_nil ?_
       refine c_reg ?_
       refine l_q (by decide) (p_move rfl).q ?_
       first | refine l_q (by decide) (r_loada Tryd.underlying46 rfl inf_46 rfl (by first | exact .fact (by repeat constructor) | exact .own (by repeat constructor) (by decide) (fun _ => rfl) | exact SlIn.reads (by repeat constructor) (by assumption) | exact SlIn.tab1 (by repeat constructor) | exact SlIn.tab2 (by repeat constructor) (by assumption)) (by assumption)).q ?_ | refine l_q (by decide) (r_loadow Tryd.underlying46 rfl inf_46 rfl (by repeat constructor) (by rfl)).q ?_ | refine l_q (by decide) (r_loadoa Tryd.underlying46 rfl inf_46 rfl (by repeat constructor) (by rfl) (fun j u h => h)).q ?_
       refine l_buildSlice (by decide) Tryd.underlying26 inf_46 (by decide) (by decide) rfl rfl rfl rfl (fun b92 => ?_)
       first | (refine l_append1 ((⟨(k : Int), 0⟩ : Ed.Op)) (by decide) Tryd.underlying26 inf_46 rfl (by decide) rfl rfl rfl rfl rfl rfl (by have := hA.n; omega) (by have := hA.n; omega) (fun A93 c93 hA93 => ?_)) | (refine l_perm (.cons _ (front1 _ _ _)) ?_; refine l_append1 ((⟨(k : Int), 0⟩ : Ed.Op)) (by decide) Tryd.underlying26 inf_46 rfl (by decide) rfl rfl rfl rfl rfl rfl (by have := hA.n; omega) (by have := hA.n; omega) (fun A93 c93 hA93 => ?_)) | (refine l_perm (.cons _ (front2 _ _ _ _)) ?_; refine l_append1 ((⟨(k : Int), 0⟩ : Ed.Op)) (by decide) Tryd.underlying26 inf_46 rfl (by decide) rfl rfl rfl rfl rfl rfl (by have := hA.n; omega) (by have := hA.n; omega) (fun A93 c93 hA93 => ?_))
       refine l_q (by decide) (p_assign rfl).q ?_
       refine l_nil ?_
       first | (refine c_drop (x := iCells b12 _ _) ?_) | (refine c_perm (front1 _ _ _) ?_; refine c_drop (x := iCells b12 _ _) ?_) | (refine c_perm (front2 _ _ _ _) ?_; refine c_drop (x := iCells b12 _ _) ?_) | (refine c_perm (front3 _ _ _ _ _) ?_; refine c_drop (x := iCells b12 _ _) ?_) | (refine c_perm (front4 _ _ _ _ _ _) ?_; refine c_drop (x := iCells b12 _ _) ?_)
       refine c_join ((i + 1), (j), (o ++ [⟨(k : Int), 0⟩]), (A93), (c93)) ?_ ?_ ?_ ?_
       ·show (AlgI X y (o ++ [⟨(k : Int), 0⟩]) (i + 1) (j)) ∧ (X.xs.length - (i + 1)) + (y.length - (j)) < (X.xs.length - i) + (y.length - j)
        have hn := hA.next hO h37 hfind
        rw [hso, hst, hse, ← hkc] at hn
        exact hn
       · exact ⟨rfl, rfl, rfl, rfl, rfl, rfl, rfl, trivial⟩
       ·show List.Perm _ ([iSl 46 2 opF (A93) (c93) (o ++ [⟨(k : Int), 0⟩]), iCells b2 25 [.slice X.A X.xs.length X.c, .slice X.B X.ins.length X.d, .int .i64 X.sw]])
        exact .refl _
       · simp
      ·skip
       refine c_seq ?_
       refine c_reg ?_
       first | refine l_q (by decide) (p_eql (j := 3) rfl rfl rfl rfl).q ?_ | refine l_q (by decide) (p_eqli rfl rfl).q ?_
       refine l_q (by decide) (p_assign rfl).q ?_
       refine l_nil ?_
       first | refine c_dec rfl (fun h75 => ?_) (fun h75 => ?_) | refine c_cond rfl (fun h75 => ?_) (fun h75 => ?_)
       ·skip
        have hkk : k = 3 := h75
        obtain ⟨u, r, hdr, hso, hst, hse⟩ := is3 (by rw [← hkk]; exact hsk)
        have hu := drop_cons hdr
        have hul := at_lt hu
        have hkc : (k : Int) = 3 := by omega
        refine c_seq ?_
        refine c_reg ?_
        refine l_q (by decide) (p_move rfl).q ?_
        refine l_q (by decide) (p_move rfl).q ?_
        first | refine l_q (by decide) (r_index Tryd.underlying23 inf_3 rfl rfl rfl (by first | exact .fact (by repeat constructor) | exact .own (by repeat constructor) (by decide) (fun _ => rfl) | exact SlIn.reads (by repeat constructor) (by assumption) | exact SlIn.tab1 (by repeat constructor) | exact SlIn.tab2 (by repeat constructor) (by assumption)) rfl (by omega)).q ?_ | refine l_q (by decide) (r_index Tryd.underlying23 inf_3 rfl rfl rfl (by first | exact .fact (by repeat constructor) | exact .own (by repeat constructor) (by decide) (fun _ => rfl) | exact SlIn.reads (by repeat constructor) (by assumption) | exact SlIn.tab1 (by repeat constructor) | exact SlIn.tab2 (by repeat constructor) (by assumption)) rfl (by decide)).q ?_ | refine l_q (by decide) (p_indexo Tryd.underlying23 inf_3 rfl rfl rfl (by omega)).q ?_
        first | refine l_q (by decide) (r_loado Tryd.underlying3 rfl rfl (by repeat constructor) (by rfl)).q ?_ | refine l_q (by decide) (r_load1 Tryd.underlying3 rfl rfl (by first | exact .fact (by repeat constructor) | exact .own (by repeat constructor) (by decide) (fun _ => rfl) | exact SlIn.reads (by repeat constructor) (by assumption) | exact SlIn.tab1 (by repeat constructor) | exact SlIn.tab2 (by repeat constructor) (by assumption)) (by first | assumption | rfl) (by rfl)).q ?_ | refine l_q (by decide) (r_loadf Tryd.underlying3 rfl rfl (by first | exact .fact (by repeat constructor) | exact .own (by repeat constructor) (by decide) (fun _ => rfl) | exact SlIn.reads (by repeat constructor) (by assumption) | exact SlIn.tab1 (by repeat constructor) | exact SlIn.tab2 (by repeat constructor) (by assumption)) (by assumption) (by rfl)).q ?_
        first | refine l_q (by decide) (p_faddr (i := 1) 1 Tryd.underlying46 rfl inf_3 (by decide) rfl rfl).q ?_ | refine l_q (by decide) (p_faddro (i := 1) 1 Tryd.underlying46 rfl inf_3 (by decide) rfl rfl).q ?_
        first | (refine l_store inf_3 rfl rfl rfl rfl (by first | decide | exact Nat.le_of_ble_eq_true rfl | (simp; done) | omega | (simp only [Nat.mul_one]; assumption)) ?_) | (refine l_perm (front1 _ _ _) ?_; refine l_store inf_3 rfl rfl rfl rfl (by first | decide | exact Nat.le_of_ble_eq_true rfl | (simp; done) | omega | (simp only [Nat.mul_one]; assumption)) ?_) | (refine l_perm (front2 _ _ _ _) ?_; refine l_store inf_3 rfl rfl rfl rfl (by first | decide | exact Nat.le_of_ble_eq_true rfl | (simp; done) | omega | (simp only [Nat.mul_one]; assumption)) ?_) | (refine l_perm (front3 _ _ _ _ _) ?_; refine l_store inf_3 rfl rfl rfl rfl (by first | decide | exact Nat.le_of_ble_eq_true rfl | (simp; done) | omega | (simp only [Nat.mul_one]; assumption)) ?_) | (refine l_perm (front4 _ _ _ _ _ _) ?_; refine l_store inf_3 rfl rfl rfl rfl (by first | decide | exact Nat.le_of_ble_eq_true rfl | (simp; done) | omega | (simp only [Nat.mul_one]; assumption)) ?_)
        refine l_nil ?_
        refine c_reg ?_
        refine l_q (by decide) (p_move rfl).q ?_
        first | refine l_q (by decide) (p_add (j := 1) rfl rfl rfl rfl (by show _ ≤ (9223372036854775807 : Nat); omega)).q ?_ | refine l_q (by decide) (p_addi rfl rfl (by show (-9223372036854775808 : Int) ≤ _; omega) (by show _ ≤ ((9223372036854775807 : Nat) : Int); omega)).q ?_
        refine l_q (by decide) (p_assign rfl).q ?_
        refine l_nil ?_
        refine c_reg ?_
        refine l_q (by decide) (p_move rfl).q ?_
        first | refine l_q (by decide) (r_loada Tryd.underlying46 rfl inf_46 rfl (by first | exact .fact (by repeat constructor) | exact .own (by repeat constructor) (by decide) (fun _ => rfl) | exact SlIn.reads (by repeat constructor) (by assumption) | exact SlIn.tab1 (by repeat constructor) | exact SlIn.tab2 (by repeat constructor) (by assumption)) (by assumption)).q ?_ | refine l_q (by decide) (r_loadow Tryd.underlying46 rfl inf_46 rfl (by repeat constructor) (by rfl)).q ?_ | refine l_q (by decide) (r_loadoa Tryd.underlying46 rfl inf_46 rfl (by repeat constructor) (by rfl) (fun j u h => h)).q ?_
        refine l_buildSlice (by decide) Tryd.underlying26 inf_46 (by decide) (by decide) rfl rfl rfl rfl (fun b92 => ?_)
        first | (refine l_append1 ((⟨(k : Int), u⟩ : Ed.Op)) (by decide) Tryd.underlying26 inf_46 rfl (by decide) rfl rfl rfl rfl rfl rfl (by have := hA.n; omega) (by have := hA.n; omega) (fun A93 c93 hA93 => ?_)) | (refine l_perm (.cons _ (front1 _ _ _)) ?_; refine l_append1 ((⟨(k : Int), u⟩ : Ed.Op)) (by decide) Tryd.underlying26 inf_46 rfl (by decide) rfl rfl rfl rfl rfl rfl (by have := hA.n; omega) (by have := hA.n; omega) (fun A93 c93 hA93 => ?_)) | (refine l_perm (.cons _ (front2 _ _ _ _)) ?_; refine l_append1 ((⟨(k : Int), u⟩ : Ed.Op)) (by decide) Tryd.underlying26 inf_46 rfl (by decide) rfl rfl rfl rfl rfl rfl (by have := hA.n; omega) (by have := hA.n; omega) (fun A93 c93 hA93 => ?_))
        refine l_q (by decide) (p_assign rfl).q ?_
        refine l_nil ?_
        first | (refine c_drop (x := iCells b12 _ _) ?_) | (refine c_perm (front1 _ _ _) ?_; refine c_drop (x := iCells b12 _ _) ?_) | (refine c_perm (front2 _ _ _ _) ?_; refine c_drop (x := iCells b12 _ _) ?_) | (refine c_perm (front3 _ _ _ _ _) ?_; refine c_drop (x := iCells b12 _ _) ?_) | (refine c_perm (front4 _ _ _ _ _ _) ?_; refine c_drop (x := iCells b12 _ _) ?_)
        refine c_join ((i), (j + 1), (o ++ [⟨(k : Int), u⟩]), (A93), (c93)) ?_ ?_ ?_ ?_
        ·show (AlgI X y (o ++ [⟨(k : Int), u⟩]) (i) (j + 1)) ∧ (X.xs.length - (i)) + (y.length - (j + 1)) < (X.xs.length - i) + (y.length - j)
         have hn := hA.next hO h37 hfind
         rw [hso, hst, hse, ← hkc] at hn
         exact hn
        · exact ⟨rfl, rfl, rfl, rfl, rfl, rfl, rfl, trivial⟩
        ·show List.Perm _ ([iSl 46 2 opF (A93) (c93) (o ++ [⟨(k : Int), u⟩]), iCells b2 25 [.slice X.A X.xs.length X.c, .slice X.B X.ins.length X.d, .int .i64 X.sw]])
         exact .refl _
        · simp
       ·skip
        refine c_seq ?_
        refine c_reg ?_
        first | refine l_q (by decide) (p_eql (j := 4) rfl rfl rfl rfl).q ?_ | refine l_q (by decide) (p_eqli rfl rfl).q ?_
        refine l_q (by decide) (p_assign rfl).q ?_
        refine l_nil ?_
        first | refine c_dec rfl (fun h84 => ?_) (fun h84 => ?_) | refine c_cond rfl (fun h84 => ?_) (fun h84 => ?_)
        ·skip
         have hkk : k = 4 := h84
         obtain ⟨hso, hst, hse⟩ := is4 (by rw [← hkk]; exact hsk)
         have hkc : (k : Int) = 4 := by omega
         refine c_reg ?_
         refine l_q (by decide) (p_move rfl).q ?_
         first | refine l_q (by decide) (p_add (j := 2) rfl rfl rfl rfl (by show _ ≤ (9223372036854775807 : Nat); omega)).q ?_ | refine l_q (by decide) (p_addi rfl rfl (by show (-9223372036854775808 : Int) ≤ _; omega) (by show _ ≤ ((9223372036854775807 : Nat) : Int); omega)).q ?_
         refine l_q (by decide) (p_move rfl).q ?_
         first | refine l_q (by decide) (p_add (j := 2) rfl rfl rfl rfl (by show _ ≤ (9223372036854775807 : Nat); omega)).q ?_ | refine l_q (by decide) (p_addi rfl rfl (by show (-9223372036854775808 : Int) ≤ _; omega) (by show _ ≤ ((9223372036854775807 : Nat) : Int); omega)).q ?_
         refine l_q (by decide) (p_assign rfl).q ?_
         refine l_q (by decide) (p_assign rfl).q ?_
         refine l_nil ?_
         refine c_reg ?_
         refine l_q (by decide) (p_move rfl).q ?_
         first | refine l_q (by decide) (r_loada Tryd.underlying46 rfl inf_46 rfl (by first | exact .fact (by repeat constructor) | exact .own (by repeat constructor) (by decide) (fun _ => rfl) | exact SlIn.reads (by repeat constructor) (by assumption) | exact SlIn.tab1 (by repeat constructor) | exact SlIn.tab2 (by repeat constructor) (by assumption)) (by assumption)).q ?_ | refine l_q (by decide) (r_loadow Tryd.underlying46 rfl inf_46 rfl (by repeat constructor) (by rfl)).q ?_ | refine l_q (by decide) (r_loadoa Tryd.underlying46 rfl inf_46 rfl (by repeat constructor) (by rfl) (fun j u h => h)).q ?_
         refine l_buildSlice (by decide) Tryd.underlying26 inf_46 (by decide) (by decide) rfl rfl rfl rfl (fun b92 => ?_)
         first | (refine l_append1 ((⟨(k : Int), 0⟩ : Ed.Op)) (by decide) Tryd.underlying26 inf_46 rfl (by decide) rfl rfl rfl rfl rfl rfl (by have := hA.n; omega) (by have := hA.n; omega) (fun A93 c93 hA93 => ?_)) | (refine l_perm (.cons _ (front1 _ _ _)) ?_; refine l_append1 ((⟨(k : Int), 0⟩ : Ed.Op)) (by decide) Tryd.underlying26 inf_46 rfl (by decide) rfl rfl rfl rfl rfl rfl (by have := hA.n; omega) (by have := hA.n; omega) (fun A93 c93 hA93 => ?_)) | (refine l_perm (.cons _ (front2 _ _ _ _)) ?_; refine l_append1 ((⟨(k : Int), 0⟩ : Ed.Op)) (by decide) Tryd.underlying26 inf_46 rfl (by decide) rfl rfl rfl rfl rfl rfl (by have := hA.n; omega) (by have := hA.n; omega) (fun A93 c93 hA93 => ?_))
         refine l_q (by decide) (p_assign rfl).q ?_
         refine l_nil ?_
         first | (refine c_drop (x := iCells b12 _ _) ?_) | (refine c_perm (front1 _ _ _) ?_; refine c_drop (x := iCells b12 _ _) ?_) | (refine c_perm (front2 _ _ _ _) ?_; refine c_drop (x := iCells b12 _ _) ?_) | (refine c_perm (front3 _ _ _ _ _) ?_; refine c_drop (x := iCells b12 _ _) ?_) | (refine c_perm (front4 _ _ _ _ _ _) ?_; refine c_drop (x := iCells b12 _ _) ?_)
         refine c_join ((i + 2), (j + 2), (o ++ [⟨(k : Int), 0⟩]), (A93), (c93)) ?_ ?_ ?_ ?_
         ·show (AlgI X y (o ++ [⟨(k : Int), 0⟩]) (i + 2) (j + 2)) ∧ (X.xs.length - (i + 2)) + (y.length - (j + 2)) < (X.xs.length - i) + (y.length - j)
          have hn := hA.next hO h37 hfind
          rw [hso, hst, hse, ← hkc] at hn
          exact hn
         · exact ⟨rfl, rfl, rfl, rfl, rfl, rfl, rfl, trivial⟩
         ·show List.Perm _ ([iSl 46 2 opF (A93) (c93) (o ++ [⟨(k : Int), 0⟩]), iCells b2 25 [.slice X.A X.xs.length X.c, .slice X.B X.ins.length X.d, .int .i64 X.sw]])
          exact .refl _
         · simp
        ·skip
         refine c_skip ?_
         refine c_reg ?_
         refine l_q (by decide) (p_move rfl).q ?_
         first | refine l_q (by decide) (r_loada Tryd.underlying46 rfl inf_46 rfl (by first | exact .fact (by repeat constructor) | exact .own (by repeat constructor) (by decide) (fun _ => rfl) | exact SlIn.reads (by repeat constructor) (by assumption) | exact SlIn.tab1 (by repeat constructor) | exact SlIn.tab2 (by repeat constructor) (by assumption)) (by assumption)).q ?_ | refine l_q (by decide) (r_loadow Tryd.underlying46 rfl inf_46 rfl (by repeat constructor) (by rfl)).q ?_ | refine l_q (by decide) (r_loadoa Tryd.underlying46 rfl inf_46 rfl (by repeat constructor) (by rfl) (fun j u h => h)).q ?_
         refine l_buildSlice (by decide) Tryd.underlying26 inf_46 (by decide) (by decide) rfl rfl rfl rfl (fun b92 => ?_)
         first | (refine l_append1 ((⟨(k : Int), 0⟩ : Ed.Op)) (by decide) Tryd.underlying26 inf_46 rfl (by decide) rfl rfl rfl rfl rfl rfl (by have := hA.n; omega) (by have := hA.n; omega) (fun A93 c93 hA93 => ?_)) | (refine l_perm (.cons _ (front1 _ _ _)) ?_; refine l_append1 ((⟨(k : Int), 0⟩ : Ed.Op)) (by decide) Tryd.underlying26 inf_46 rfl (by decide) rfl rfl rfl rfl rfl rfl (by have := hA.n; omega) (by have := hA.n; omega) (fun A93 c93 hA93 => ?_)) | (refine l_perm (.cons _ (front2 _ _ _ _)) ?_; refine l_append1 ((⟨(k : Int), 0⟩ : Ed.Op)) (by decide) Tryd.underlying26 inf_46 rfl (by decide) rfl rfl rfl rfl rfl rfl (by have := hA.n; omega) (by have := hA.n; omega) (fun A93 c93 hA93 => ?_))
         refine l_q (by decide) (p_assign rfl).q ?_
         refine l_nil ?_
         first | (refine c_drop (x := iCells b12 _ _) ?_) | (refine c_perm (front1 _ _ _) ?_; refine c_drop (x := iCells b12 _ _) ?_) | (refine c_perm (front2 _ _ _ _) ?_; refine c_drop (x := iCells b12 _ _) ?_) | (refine c_perm (front3 _ _ _ _ _) ?_; refine c_drop (x := iCells b12 _ _) ?_) | (refine c_perm (front4 _ _ _ _ _ _) ?_; refine c_drop (x := iCells b12 _ _) ?_)
         refine c_join ((i), (j), (o ++ [⟨(k : Int), 0⟩]), (A93), (c93)) ?_ ?_ ?_ ?_
         ·show (AlgI X y (o ++ [⟨(k : Int), 0⟩]) (i) (j)) ∧ (X.xs.length - (i)) + (y.length - (j)) < (X.xs.length - i) + (y.length - j)
          exfalso; omega
         · exact ⟨rfl, rfl, rfl, rfl, rfl, rfl, rfl, trivial⟩
         ·show List.Perm _ ([iSl 46 2 opF (A93) (c93) (o ++ [⟨(k : Int), 0⟩]), iCells b2 25 [.slice X.A X.xs.length X.c, .slice X.B X.ins.length X.d, .int .i64 X.sw]])
          exact .refl _
         · simp
   ·skip
    refine c_exit ?_
    refine c_here ?_
    refine c_seq ?_
    refine c_reg ?_
    refine l_q (by decide) (p_move rfl).q ?_
    refine l_q (by decide) (p_assign rfl).q ?_
    refine l_q (by decide) (p_assign (v := .int .i64 ((0 : Nat) : Int)) rfl).q ?_
    refine l_nil ?_
    refine c_ret ?_
    refine c_ret2 rfl rfl rfl (fun w hs => ?_)
    have hij : i = X.xs.length ∧ j = y.length := by have := hA.hi; have := hA.hj; omega
    obtain ⟨hi0, hj0⟩ := hij
    subst hi0; subst hj0
    have hod : o = Ed.align X.pl 0 y := by have := hA.eq; rw [List.drop_length, show Ed.align X.pl X.xs.length [] = [] by rw [← pl_len]; exact Ed.align_end _, List.append_nil] at this; exact this
    have g := hs.give (e := 46) (size := 2) (f := opF) (es := o) (by repeat constructor) (by decide) len_opF
    exact (by rw [alg_yes hy hlt, ← hod]; exact ⟨(_, _), rfl, g.1, g.2.1, hs.ext⟩)
end Go.Proofs.YtlefheiohblgdaaDoor
