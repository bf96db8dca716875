/- The walks of edit scripts, second part; conditions: lengths. -/
import Derived.Test.YtlefheiohblgdaaDoorWalks
namespace Go.Proofs.YtlefheiohblgdaaDoor
open Go Go.Fx Go.Proofs
theorem call_40 : Callable Tryd.prog 40 := ⟨_, Tryd.func40, by kernel_rfl, rfl⟩
theorem less_ok (A B : Option Addr) (c d : Nat) (l m : List Ed.Op) (hl : l.length ≤ 140737488355328) (w : World) (hq : Sl 2 opF A l w) (hp : Sl 2 opF B m w) :
   Calls Tryd.prog 25 #[.slice A l.length c, .slice B m.length d] w (Ret fun v w' => v = .bool (Ed.less l m) ∧ Ext [] w w') := by
 refine calls_fx (l := [.slice A l.length c, .slice B m.length d]) Tryd.func25 rfl Tryd.ntmps25 (Nat.le_of_ble_eq_true rfl) (Holds.two hq (dep_sl (by decide) hq) hp (dep_sl (by decide) hp)) ?_
 refine c_seq ?_
 refine c_reg ?_
 refine l_q (by decide) (p_assign rfl).q ?_
 refine l_nil ?_
 refine c_seq ?_
 refine c_seq ?_
 refine c_reg ?_
 refine l_q (by decide) (p_assign (v := .int .i64 ((0 : Nat) : Int)) rfl).q ?_
 refine l_nil ?_
 refine c_block ?_
 refine c_loop (S := Nat) (fun zs => zs ≤ l.length ∧ zs ≤ m.length ∧ Ed.less l m = Ed.less (l.drop zs) (m.drop zs)) (fun zs => l.length - zs) (fun zs => [(0, .slice A l.length c), (1, .slice B m.length d), (5, .int .i64 (zs : Int))]) (fun zs => []) (fun zs => [Sl 2 opF A l, Sl 2 opF B m]) (0) ?_ ?_ ?_ ?_ ?_
 · show (0) ≤ l.length ∧ (0) ≤ m.length ∧ Ed.less l m = Ed.less (l.drop (0)) (m.drop (0))
   exact ⟨Nat.zero_le _, Nat.zero_le _, rfl⟩
 · exact ⟨rfl, rfl, rfl, trivial⟩
 · exact .refl _
 · simp
 rintro k hinv
 have hinv : k ≤ l.length ∧ k ≤ m.length ∧ Ed.less l m = Ed.less (l.drop k) (m.drop k) := hinv
 obtain ⟨hk, hk2, he⟩ := hinv
 show Cont _ _ _ _ [(0, .slice A l.length c), (1, .slice B m.length d), (5, .int .i64 (k : Int))] ([]) [Sl 2 opF A l, Sl 2 opF B m]
 refine c_seq ?_
 refine c_seq ?_
 refine c_meetn (S := Unit) (fun zs => True) (fun zs => [(0, .slice A l.length c), (1, .slice B m.length d), (5, .int .i64 (k : Int)), (15, .bool (decide (k < l.length ∧ k < m.length)))]) (fun zs => []) (fun zs => [Sl 2 opF A l, Sl 2 opF B m]) ?_ ?_
 ·skip
  refine c_reg ?_
  refine l_q (by decide) (p_move rfl).q ?_
  refine l_q (by decide) (p_move rfl).q ?_
  refine l_q (by decide) (p_len_sl Tryd.underlying26 rfl).q ?_
  first | refine l_q (by decide) (p_lss rfl rfl rfl rfl).q ?_ | refine l_q (by decide) (p_lssi rfl rfl).q ?_
  refine l_q (by decide) (p_move rfl).q ?_
  first | refine l_splitd (t := 10) rfl (fun h10 => ?_) (fun h10 => ?_) | refine l_splitb (t := 10) rfl (fun h10 => ?_) (fun h10 => ?_)
  ·skip
   refine l_g (j := 4) rfl rfl (by decide) (p_move rfl).q ?_
   refine l_g (j := 4) rfl rfl (by decide) (p_move rfl).q ?_
   refine l_g (j := 4) rfl rfl (by decide) (p_len_sl Tryd.underlying26 rfl).q ?_
   first | refine l_g (j := 4) rfl rfl (by decide) (p_lss rfl rfl rfl rfl).q ?_ | refine l_g (j := 4) rfl rfl (by decide) (p_lssi rfl rfl).q ?_
   refine l_q (by decide) (p_pick rfl rfl).q ?_
   refine l_nil ?_
   refine c_join (()) ?inv ?sub ?perm ?facts
   case sub => exact ⟨rfl, rfl, rfl, (by first | rfl | exact congrArg (fun b => some (Value.bool b)) (decide_eq_true (by omega)).symm | exact congrArg (fun b => some (Value.bool b)) (decide_eq_false (by omega)).symm | exact congrArg (fun b => some (Value.bool b)) (decide_eq_decide.2 (by omega))), trivial⟩
   case perm =>
    exact .refl _
   case facts => exact fun _ h => h
   case inv =>
    trivial
  ·skip
   refine l_off (j := 4) rfl rfl (by first | (simp; done) | (simp [undef]; done)) (by decide) ?_
   refine l_off (j := 4) rfl rfl (by first | (simp; done) | (simp [undef]; done)) (by decide) ?_
   refine l_off (j := 4) rfl rfl (by first | (simp; done) | (simp [undef]; done)) (by decide) ?_
   refine l_off (j := 4) rfl rfl (by first | (simp; done) | (simp [undef]; done)) (by decide) ?_
   refine l_q (by decide) (p_pick rfl rfl).q ?_
   refine l_nil ?_
   refine c_join (()) ?inv ?sub ?perm ?facts
   case sub => exact ⟨rfl, rfl, rfl, (by first | rfl | exact congrArg (fun b => some (Value.bool b)) (decide_eq_true (by omega)).symm | exact congrArg (fun b => some (Value.bool b)) (decide_eq_false (by omega)).symm | exact congrArg (fun b => some (Value.bool b)) (decide_eq_decide.2 (by omega))), trivial⟩
   case perm =>
    exact .refl _
   case facts => exact fun _ h => h
   case inv =>
    trivial
 rintro uu hmeet
 show Cont _ _ _ _ [(0, .slice A l.length c), (1, .slice B m.length d), (5, .int .i64 (k : Int)), (15, .bool (decide (k < l.length ∧ k < m.length)))] ([]) [Sl 2 opF A l, Sl 2 opF B m]
 first | refine c_dec rfl (fun h15 => ?_) (fun h15 => ?_) | refine c_cond rfl (fun h15 => ?_) (fun h15 => ?_)
 ·skip
  obtain ⟨u, hu⟩ := at_some (l := l) (n := k) (by omega)
  obtain ⟨u2, hu2⟩ := at_some (l := m) (n := k) (by omega)
  refine c_skip ?_
  refine c_seq ?_
  refine c_block ?_
  refine c_seq ?_
  refine c_draw mixed (by decide +kernel) ?_
  refine q_q (by decide) (p_move rfl).q ?_
  refine q_q (by decide) (p_move rfl).q ?_
  first | refine q_q (by decide) (r_index Tryd.underlying26 inf_46 rfl rfl rfl (by first | exact .fact (by repeat constructor) | exact .own (by repeat constructor) (by decide) (fun _ => rfl) | exact SlIn.reads (by repeat constructor) (by assumption)) rfl (by omega)).q ?_ | refine q_q (by decide) (r_index Tryd.underlying26 inf_46 rfl rfl rfl (by first | exact .fact (by repeat constructor) | exact .own (by repeat constructor) (by decide) (fun _ => rfl) | exact SlIn.reads (by repeat constructor) (by assumption)) rfl (by decide)).q ?_ | refine q_q (by decide) (p_indexo Tryd.underlying26 inf_46 rfl rfl rfl (by omega)).q ?_
  first | refine q_q (by decide) (r_loada Tryd.underlying46 rfl inf_46 rfl (by first | exact .fact (by repeat constructor) | exact .own (by repeat constructor) (by decide) (fun _ => rfl) | exact SlIn.reads (by repeat constructor) (by assumption)) (by assumption)).q ?_ | refine q_q (by decide) (r_loadow Tryd.underlying46 rfl inf_46 rfl (by repeat constructor) (by rfl)).q ?_ | refine q_q (by decide) (r_loadoa Tryd.underlying46 rfl inf_46 rfl (by repeat constructor) (by rfl) (fun j u h => h)).q ?_
  refine q_q (by decide) (p_move rfl).q ?_
  refine q_q (by decide) (p_move rfl).q ?_
  first | refine q_q (by decide) (r_index Tryd.underlying26 inf_46 rfl rfl rfl (by first | exact .fact (by repeat constructor) | exact .own (by repeat constructor) (by decide) (fun _ => rfl) | exact SlIn.reads (by repeat constructor) (by assumption)) rfl (by omega)).q ?_ | refine q_q (by decide) (r_index Tryd.underlying26 inf_46 rfl rfl rfl (by first | exact .fact (by repeat constructor) | exact .own (by repeat constructor) (by decide) (fun _ => rfl) | exact SlIn.reads (by repeat constructor) (by assumption)) rfl (by decide)).q ?_ | refine q_q (by decide) (p_indexo Tryd.underlying26 inf_46 rfl rfl rfl (by omega)).q ?_
  first | refine q_q (by decide) (r_loada Tryd.underlying46 rfl inf_46 rfl (by first | exact .fact (by repeat constructor) | exact .own (by repeat constructor) (by decide) (fun _ => rfl) | exact SlIn.reads (by repeat constructor) (by assumption)) (by assumption)).q ?_ | refine q_q (by decide) (r_loadow Tryd.underlying46 rfl inf_46 rfl (by repeat constructor) (by rfl)).q ?_ | refine q_q (by decide) (r_loadoa Tryd.underlying46 rfl inf_46 rfl (by repeat constructor) (by rfl) (fun j u h => h)).q ?_
  refine q_q (by decide) (neq_op rfl rfl).q ?_
  refine q_nil ?_
  first | refine c_dec rfl (fun h26 => ?_) (fun h26 => ?_) | refine c_cond rfl (fun h26 => ?_) (fun h26 => ?_)
  ·skip
   refine c_seq ?_
   refine c_draw mixed (by decide +kernel) ?_
   refine q_q (by decide) (p_move rfl).q ?_
   refine q_q (by decide) (p_move rfl).q ?_
   first | refine q_q (by decide) (r_index Tryd.underlying26 inf_46 rfl rfl rfl (by first | exact .fact (by repeat constructor) | exact .own (by repeat constructor) (by decide) (fun _ => rfl) | exact SlIn.reads (by repeat constructor) (by assumption)) rfl (by omega)).q ?_ | refine q_q (by decide) (r_index Tryd.underlying26 inf_46 rfl rfl rfl (by first | exact .fact (by repeat constructor) | exact .own (by repeat constructor) (by decide) (fun _ => rfl) | exact SlIn.reads (by repeat constructor) (by assumption)) rfl (by decide)).q ?_ | refine q_q (by decide) (p_indexo Tryd.underlying26 inf_46 rfl rfl rfl (by omega)).q ?_
   first | refine q_q (by decide) (p_faddr (i := 0) 0 Tryd.underlying46 rfl inf_3 (by decide) rfl rfl).q ?_ | refine q_q (by decide) (p_faddro (i := 0) 0 Tryd.underlying46 rfl inf_3 (by decide) rfl rfl).q ?_
   first | refine q_q (by decide) (r_loado Tryd.underlying3 rfl rfl (by repeat constructor) (by rfl)).q ?_ | refine q_q (by decide) (r_load1 Tryd.underlying3 rfl rfl (by first | exact .fact (by repeat constructor) | exact .own (by repeat constructor) (by decide) (fun _ => rfl) | exact SlIn.reads (by repeat constructor) (by assumption)) (by first | assumption | rfl) (by rfl)).q ?_ | refine q_q (by decide) (r_loadf Tryd.underlying3 rfl rfl (by first | exact .fact (by repeat constructor) | exact .own (by repeat constructor) (by decide) (fun _ => rfl) | exact SlIn.reads (by repeat constructor) (by assumption)) (by assumption) (by rfl)).q ?_
   refine q_q (by decide) (p_move rfl).q ?_
   refine q_q (by decide) (p_move rfl).q ?_
   first | refine q_q (by decide) (r_index Tryd.underlying26 inf_46 rfl rfl rfl (by first | exact .fact (by repeat constructor) | exact .own (by repeat constructor) (by decide) (fun _ => rfl) | exact SlIn.reads (by repeat constructor) (by assumption)) rfl (by omega)).q ?_ | refine q_q (by decide) (r_index Tryd.underlying26 inf_46 rfl rfl rfl (by first | exact .fact (by repeat constructor) | exact .own (by repeat constructor) (by decide) (fun _ => rfl) | exact SlIn.reads (by repeat constructor) (by assumption)) rfl (by decide)).q ?_ | refine q_q (by decide) (p_indexo Tryd.underlying26 inf_46 rfl rfl rfl (by omega)).q ?_
   first | refine q_q (by decide) (p_faddr (i := 0) 0 Tryd.underlying46 rfl inf_3 (by decide) rfl rfl).q ?_ | refine q_q (by decide) (p_faddro (i := 0) 0 Tryd.underlying46 rfl inf_3 (by decide) rfl rfl).q ?_
   first | refine q_q (by decide) (r_loado Tryd.underlying3 rfl rfl (by repeat constructor) (by rfl)).q ?_ | refine q_q (by decide) (r_load1 Tryd.underlying3 rfl rfl (by first | exact .fact (by repeat constructor) | exact .own (by repeat constructor) (by decide) (fun _ => rfl) | exact SlIn.reads (by repeat constructor) (by assumption)) (by first | assumption | rfl) (by rfl)).q ?_ | refine q_q (by decide) (r_loadf Tryd.underlying3 rfl rfl (by first | exact .fact (by repeat constructor) | exact .own (by repeat constructor) (by decide) (fun _ => rfl) | exact SlIn.reads (by repeat constructor) (by assumption)) (by assumption) (by rfl)).q ?_
   first | refine q_q (by decide) (p_lss rfl rfl rfl rfl).q ?_ | refine q_q (by decide) (p_lssi rfl rfl).q ?_
   refine q_q (by decide) (p_move rfl).q ?_
   first | refine q_splitd (t := 38) rfl (fun h38 => ?_) (fun h38 => ?_) | refine q_splitb (t := 38) rfl (fun h38 => ?_) (fun h38 => ?_)
   ·skip
    refine q_off (j := 11) rfl rfl (by first | (simp; done) | (simp [undef]; done)) (by decide) ?_
    refine q_off (j := 11) rfl rfl (by first | (simp; done) | (simp [undef]; done)) (by decide) ?_
    refine q_off (j := 11) rfl rfl (by first | (simp; done) | (simp [undef]; done)) (by decide) ?_
    refine q_off (j := 11) rfl rfl (by first | (simp; done) | (simp [undef]; done)) (by decide) ?_
    refine q_off (j := 11) rfl rfl (by first | (simp; done) | (simp [undef]; done)) (by decide) ?_
    refine q_off (j := 11) rfl rfl (by first | (simp; done) | (simp [undef]; done)) (by decide) ?_
    refine q_off (j := 11) rfl rfl (by first | (simp; done) | (simp [undef]; done)) (by decide) ?_
    refine q_off (j := 11) rfl rfl (by first | (simp; done) | (simp [undef]; done)) (by decide) ?_
    refine q_off (j := 11) rfl rfl (by first | (simp; done) | (simp [undef]; done)) (by decide) ?_
    refine q_off (j := 11) rfl rfl (by first | (simp; done) | (simp [undef]; done)) (by decide) ?_
    refine q_off (j := 11) rfl rfl (by first | (simp; done) | (simp [undef]; done)) (by decide) ?_
    refine q_off (j := 11) rfl rfl (by first | (simp; done) | (simp [undef]; done)) (by decide) ?_
    refine q_off (j := 23) rfl rfl (by first | (simp; done) | (simp [undef]; done)) (by decide) ?_
    refine q_off (j := 23) rfl rfl (by first | (simp; done) | (simp [undef]; done)) (by decide) ?_
    refine q_off (j := 23) rfl rfl (by first | (simp; done) | (simp [undef]; done)) (by decide) ?_
    refine q_off (j := 23) rfl rfl (by first | (simp; done) | (simp [undef]; done)) (by decide) ?_
    refine q_off (j := 23) rfl rfl (by first | (simp; done) | (simp [undef]; done)) (by decide) ?_
    refine q_off (j := 23) rfl rfl (by first | (simp; done) | (simp [undef]; done)) (by decide) ?_
    refine q_off (j := 23) rfl rfl (by first | (simp; done) | (simp [undef]; done)) (by decide) ?_
    refine q_off (j := 23) rfl rfl (by first | (simp; done) | (simp [undef]; done)) (by decide) ?_
    refine q_off (j := 23) rfl rfl (by first | (simp; done) | (simp [undef]; done)) (by decide) ?_
    refine q_off (j := 23) rfl rfl (by first | (simp; done) | (simp [undef]; done)) (by decide) ?_
    refine q_off (j := 23) rfl rfl (by first | (simp; done) | (simp [undef]; done)) (by decide) ?_
    refine q_off (j := 11) rfl rfl (by first | (simp; done) | (simp [undef]; done)) (by decide) ?_
    refine q_q (by decide) (p_pick rfl rfl).q ?_
    refine q_q (by decide) (p_assign rfl).q ?_
    refine q_nil ?_
    refine c_ret ?_
    refine c_ret1 rfl rfl (fun w hs => ?_)
    refine ⟨?_, hs.ext⟩
    rw [he, drop_at hu, drop_at hu2, Ed.less, if_neg (fun h => h26 h)]
    first | exact congrArg Value.bool (decide_eq_true (by omega)).symm | exact congrArg Value.bool (decide_eq_false (by omega)).symm | exact congrArg Value.bool (decide_eq_decide.2 (by omega))
   ·skip
    refine q_g (j := 11) rfl rfl (by decide) (p_move rfl).q ?_
    refine q_g (j := 11) rfl rfl (by decide) (p_move rfl).q ?_
    first | refine q_g (j := 11) rfl rfl (by decide) (r_index Tryd.underlying26 inf_46 rfl rfl rfl (by first | exact .fact (by repeat constructor) | exact .own (by repeat constructor) (by decide) (fun _ => rfl) | exact SlIn.reads (by repeat constructor) (by assumption)) rfl (by omega)).q ?_ | refine q_g (j := 11) rfl rfl (by decide) (r_index Tryd.underlying26 inf_46 rfl rfl rfl (by first | exact .fact (by repeat constructor) | exact .own (by repeat constructor) (by decide) (fun _ => rfl) | exact SlIn.reads (by repeat constructor) (by assumption)) rfl (by decide)).q ?_ | refine q_g (j := 11) rfl rfl (by decide) (p_indexo Tryd.underlying26 inf_46 rfl rfl rfl (by omega)).q ?_
    first | refine q_g (j := 11) rfl rfl (by decide) (p_faddr (i := 0) 0 Tryd.underlying46 rfl inf_3 (by decide) rfl rfl).q ?_ | refine q_g (j := 11) rfl rfl (by decide) (p_faddro (i := 0) 0 Tryd.underlying46 rfl inf_3 (by decide) rfl rfl).q ?_
    first | refine q_g (j := 11) rfl rfl (by decide) (r_loado Tryd.underlying3 rfl rfl (by repeat constructor) (by rfl)).q ?_ | refine q_g (j := 11) rfl rfl (by decide) (r_load1 Tryd.underlying3 rfl rfl (by first | exact .fact (by repeat constructor) | exact .own (by repeat constructor) (by decide) (fun _ => rfl) | exact SlIn.reads (by repeat constructor) (by assumption)) (by first | assumption | rfl) (by rfl)).q ?_ | refine q_g (j := 11) rfl rfl (by decide) (r_loadf Tryd.underlying3 rfl rfl (by first | exact .fact (by repeat constructor) | exact .own (by repeat constructor) (by decide) (fun _ => rfl) | exact SlIn.reads (by repeat constructor) (by assumption)) (by assumption) (by rfl)).q ?_
    refine q_g (j := 11) rfl rfl (by decide) (p_move rfl).q ?_
    refine q_g (j := 11) rfl rfl (by decide) (p_move rfl).q ?_
    first | refine q_g (j := 11) rfl rfl (by decide) (r_index Tryd.underlying26 inf_46 rfl rfl rfl (by first | exact .fact (by repeat constructor) | exact .own (by repeat constructor) (by decide) (fun _ => rfl) | exact SlIn.reads (by repeat constructor) (by assumption)) rfl (by omega)).q ?_ | refine q_g (j := 11) rfl rfl (by decide) (r_index Tryd.underlying26 inf_46 rfl rfl rfl (by first | exact .fact (by repeat constructor) | exact .own (by repeat constructor) (by decide) (fun _ => rfl) | exact SlIn.reads (by repeat constructor) (by assumption)) rfl (by decide)).q ?_ | refine q_g (j := 11) rfl rfl (by decide) (p_indexo Tryd.underlying26 inf_46 rfl rfl rfl (by omega)).q ?_
    first | refine q_g (j := 11) rfl rfl (by decide) (p_faddr (i := 0) 0 Tryd.underlying46 rfl inf_3 (by decide) rfl rfl).q ?_ | refine q_g (j := 11) rfl rfl (by decide) (p_faddro (i := 0) 0 Tryd.underlying46 rfl inf_3 (by decide) rfl rfl).q ?_
    first | refine q_g (j := 11) rfl rfl (by decide) (r_loado Tryd.underlying3 rfl rfl (by repeat constructor) (by rfl)).q ?_ | refine q_g (j := 11) rfl rfl (by decide) (r_load1 Tryd.underlying3 rfl rfl (by first | exact .fact (by repeat constructor) | exact .own (by repeat constructor) (by decide) (fun _ => rfl) | exact SlIn.reads (by repeat constructor) (by assumption)) (by first | assumption | rfl) (by rfl)).q ?_ | refine q_g (j := 11) rfl rfl (by decide) (r_loadf Tryd.underlying3 rfl rfl (by first | exact .fact (by repeat constructor) | exact .own (by repeat constructor) (by decide) (fun _ => rfl) | exact SlIn.reads (by repeat constructor) (by assumption)) (by assumption) (by rfl)).q ?_
    first | refine q_g (j := 11) rfl rfl (by decide) (p_eql rfl rfl rfl rfl).q ?_ | refine q_g (j := 11) rfl rfl (by decide) (p_eqli rfl rfl).q ?_
    refine q_g (j := 11) rfl rfl (by decide) (p_move rfl).q ?_
    first | refine q_splitd (t := 50) rfl (fun h50 => ?_) (fun h50 => ?_) | refine q_splitb (t := 50) rfl (fun h50 => ?_) (fun h50 => ?_)
    ·skip
     refine q_g (j := 23) rfl rfl (by decide) (p_move rfl).q ?_
     refine q_g (j := 23) rfl rfl (by decide) (p_move rfl).q ?_
     first | refine q_g (j := 23) rfl rfl (by decide) (r_index Tryd.underlying26 inf_46 rfl rfl rfl (by first | exact .fact (by repeat constructor) | exact .own (by repeat constructor) (by decide) (fun _ => rfl) | exact SlIn.reads (by repeat constructor) (by assumption)) rfl (by omega)).q ?_ | refine q_g (j := 23) rfl rfl (by decide) (r_index Tryd.underlying26 inf_46 rfl rfl rfl (by first | exact .fact (by repeat constructor) | exact .own (by repeat constructor) (by decide) (fun _ => rfl) | exact SlIn.reads (by repeat constructor) (by assumption)) rfl (by decide)).q ?_ | refine q_g (j := 23) rfl rfl (by decide) (p_indexo Tryd.underlying26 inf_46 rfl rfl rfl (by omega)).q ?_
     first | refine q_g (j := 23) rfl rfl (by decide) (p_faddr (i := 1) 1 Tryd.underlying46 rfl inf_3 (by decide) rfl rfl).q ?_ | refine q_g (j := 23) rfl rfl (by decide) (p_faddro (i := 1) 1 Tryd.underlying46 rfl inf_3 (by decide) rfl rfl).q ?_
     first | refine q_g (j := 23) rfl rfl (by decide) (r_loado Tryd.underlying3 rfl rfl (by repeat constructor) (by rfl)).q ?_ | refine q_g (j := 23) rfl rfl (by decide) (r_load1 Tryd.underlying3 rfl rfl (by first | exact .fact (by repeat constructor) | exact .own (by repeat constructor) (by decide) (fun _ => rfl) | exact SlIn.reads (by repeat constructor) (by assumption)) (by first | assumption | rfl) (by rfl)).q ?_ | refine q_g (j := 23) rfl rfl (by decide) (r_loadf Tryd.underlying3 rfl rfl (by first | exact .fact (by repeat constructor) | exact .own (by repeat constructor) (by decide) (fun _ => rfl) | exact SlIn.reads (by repeat constructor) (by assumption)) (by assumption) (by rfl)).q ?_
     refine q_g (j := 23) rfl rfl (by decide) (p_move rfl).q ?_
     refine q_g (j := 23) rfl rfl (by decide) (p_move rfl).q ?_
     first | refine q_g (j := 23) rfl rfl (by decide) (r_index Tryd.underlying26 inf_46 rfl rfl rfl (by first | exact .fact (by repeat constructor) | exact .own (by repeat constructor) (by decide) (fun _ => rfl) | exact SlIn.reads (by repeat constructor) (by assumption)) rfl (by omega)).q ?_ | refine q_g (j := 23) rfl rfl (by decide) (r_index Tryd.underlying26 inf_46 rfl rfl rfl (by first | exact .fact (by repeat constructor) | exact .own (by repeat constructor) (by decide) (fun _ => rfl) | exact SlIn.reads (by repeat constructor) (by assumption)) rfl (by decide)).q ?_ | refine q_g (j := 23) rfl rfl (by decide) (p_indexo Tryd.underlying26 inf_46 rfl rfl rfl (by omega)).q ?_
     first | refine q_g (j := 23) rfl rfl (by decide) (p_faddr (i := 1) 1 Tryd.underlying46 rfl inf_3 (by decide) rfl rfl).q ?_ | refine q_g (j := 23) rfl rfl (by decide) (p_faddro (i := 1) 1 Tryd.underlying46 rfl inf_3 (by decide) rfl rfl).q ?_
     first | refine q_g (j := 23) rfl rfl (by decide) (r_loado Tryd.underlying3 rfl rfl (by repeat constructor) (by rfl)).q ?_ | refine q_g (j := 23) rfl rfl (by decide) (r_load1 Tryd.underlying3 rfl rfl (by first | exact .fact (by repeat constructor) | exact .own (by repeat constructor) (by decide) (fun _ => rfl) | exact SlIn.reads (by repeat constructor) (by assumption)) (by first | assumption | rfl) (by rfl)).q ?_ | refine q_g (j := 23) rfl rfl (by decide) (r_loadf Tryd.underlying3 rfl rfl (by first | exact .fact (by repeat constructor) | exact .own (by repeat constructor) (by decide) (fun _ => rfl) | exact SlIn.reads (by repeat constructor) (by assumption)) (by assumption) (by rfl)).q ?_
     first | refine q_g (j := 23) rfl rfl (by decide) (p_lss rfl rfl rfl rfl).q ?_ | refine q_g (j := 23) rfl rfl (by decide) (p_lssi rfl rfl).q ?_
     refine q_g (j := 11) rfl rfl (by decide) (p_pick rfl rfl).q ?_
     refine q_q (by decide) (p_pick rfl rfl).q ?_
     refine q_q (by decide) (p_assign rfl).q ?_
     refine q_nil ?_
     refine c_ret ?_
     refine c_ret1 rfl rfl (fun w hs => ?_)
     refine ⟨?_, hs.ext⟩
     rw [he, drop_at hu, drop_at hu2, Ed.less, if_neg (fun h => h26 h)]
     first | exact congrArg Value.bool (decide_eq_true (by omega)).symm | exact congrArg Value.bool (decide_eq_false (by omega)).symm | exact congrArg Value.bool (decide_eq_decide.2 (by omega))
    ·skip
     refine q_off (j := 23) rfl rfl (by first | (simp; done) | (simp [undef]; done)) (by decide) ?_
     refine q_off (j := 23) rfl rfl (by first | (simp; done) | (simp [undef]; done)) (by decide) ?_
     refine q_off (j := 23) rfl rfl (by first | (simp; done) | (simp [undef]; done)) (by decide) ?_
     refine q_off (j := 23) rfl rfl (by first | (simp; done) | (simp [undef]; done)) (by decide) ?_
     refine q_off (j := 23) rfl rfl (by first | (simp; done) | (simp [undef]; done)) (by decide) ?_
     refine q_off (j := 23) rfl rfl (by first | (simp; done) | (simp [undef]; done)) (by decide) ?_
     refine q_off (j := 23) rfl rfl (by first | (simp; done) | (simp [undef]; done)) (by decide) ?_
     refine q_off (j := 23) rfl rfl (by first | (simp; done) | (simp [undef]; done)) (by decide) ?_
     refine q_off (j := 23) rfl rfl (by first | (simp; done) | (simp [undef]; done)) (by decide) ?_
     refine q_off (j := 23) rfl rfl (by first | (simp; done) | (simp [undef]; done)) (by decide) ?_
     refine q_off (j := 23) rfl rfl (by first | (simp; done) | (simp [undef]; done)) (by decide) ?_
     refine q_g (j := 11) rfl rfl (by decide) (p_pick rfl rfl).q ?_
     refine q_q (by decide) (p_pick rfl rfl).q ?_
     refine q_q (by decide) (p_assign rfl).q ?_
     refine q_nil ?_
     refine c_ret ?_
     refine c_ret1 rfl rfl (fun w hs => ?_)
     refine ⟨?_, hs.ext⟩
     rw [he, drop_at hu, drop_at hu2, Ed.less, if_neg (fun h => h26 h)]
     first | exact congrArg Value.bool (decide_eq_true (by omega)).symm | exact congrArg Value.bool (decide_eq_false (by omega)).symm | exact congrArg Value.bool (decide_eq_decide.2 (by omega))
  ·skip
   refine c_skip ?_
   refine c_reg ?_
   refine l_q (by decide) (p_move rfl).q ?_
   first | refine l_q (by decide) (p_add (j := 1) rfl rfl rfl rfl (by show _ ≤ (9223372036854775807 : Nat); omega)).q ?_ | refine l_q (by decide) (p_addi rfl rfl (by show (-9223372036854775808 : Int) ≤ _; omega) (by show _ ≤ ((9223372036854775807 : Nat) : Int); omega)).q ?_
   refine l_q (by decide) (p_assign rfl).q ?_
   refine l_nil ?_
   refine c_join ((k + 1)) ?_ ?_ ?_ ?_
   ·show ((k + 1) ≤ l.length ∧ (k + 1) ≤ m.length ∧ Ed.less l m = Ed.less (l.drop (k + 1)) (m.drop (k + 1))) ∧ l.length - (k + 1) < l.length - k
    exact ⟨⟨by omega, by omega, by rw [he, drop_at hu, drop_at hu2, Ed.less, if_pos (Classical.not_not.1 h26)]⟩, by omega⟩
   · exact ⟨rfl, rfl, rfl, trivial⟩
   ·show List.Perm _ ([])
    exact .refl _
   · exact fun _ h => h
 ·skip
  refine c_exit ?_
  refine c_here ?_
  refine c_seq ?_
  refine c_reg ?_
  refine l_q (by decide) (p_move rfl).q ?_
  refine l_q (by decide) (p_len_sl Tryd.underlying26 rfl).q ?_
  refine l_q (by decide) (p_move rfl).q ?_
  refine l_q (by decide) (p_len_sl Tryd.underlying26 rfl).q ?_
  first | refine l_q (by decide) (p_lss rfl rfl rfl rfl).q ?_ | refine l_q (by decide) (p_lssi rfl rfl).q ?_
  refine l_q (by decide) (p_assign rfl).q ?_
  refine l_nil ?_
  refine c_ret ?_
  refine c_ret1 rfl rfl (fun w hs => ?_)
  refine ⟨?_, hs.ext⟩
  rw [he]
  by_cases hm : k < m.length
  · rw [List.drop_of_length_le (l := l) (by omega), drop_at (at_some hm).choose_spec, Ed.less, decide_eq_true (by omega)]; rfl
  · rw [List.drop_of_length_le (l := m) (by omega), decide_eq_false (by omega)]; cases l.drop k <;> rfl

theorem small_ok (X : Inp) (hX : X.small) (w : World) (hM : X.mem w) :
   Calls Tryd.prog 27 #[.agg #[.slice X.A X.xs.length X.c, .slice X.B X.ins.length X.d, .int .i64 X.sw]] w (Ret fun v w' => v = .bool (dec (X.xs.length ≤ 8 ∧ X.ins.length ≤ 8 ∧ ∀ x, x ∈ X.xs → x.o.read.length ≤ 8)) ∧ Ext [] w w') := by
 have _ := hX
 refine calls_fx (l := [.agg #[.slice X.A X.xs.length X.c, .slice X.B X.ins.length X.d, .int .i64 X.sw]]) Tryd.func27 rfl Tryd.ntmps27 (Nat.le_of_ble_eq_true rfl) (X.start hM) ?_
 refine c_seq ?_
 refine c_reg ?_
 refine l_box (by decide) rfl _ rfl (fun b1 => ?_)
 refine l_q (by decide) (p_assign rfl).q ?_
 refine l_nil ?_
 refine c_seq ?_
 refine c_seq ?_
 refine c_meetn (S := Unit) (fun zs => True) (fun zs => [(1, .pointer (some ⟨b1, 0, none⟩)), (13, .bool (decide (8 < X.xs.length ∨ 8 < X.ins.length)))]) (fun zs => [iCells b1 25 [.slice X.A X.xs.length X.c, .slice X.B X.ins.length X.d, .int .i64 X.sw]]) (fun zs => [Rd X.xs, Sl 1 intF X.B X.ins, Sl 3 colF X.A X.xs]) ?_ ?_
 ·skip
  refine c_reg ?_
  first | refine l_q (by decide) (p_faddr (i := 0) 0 Tryd.underlying25 rfl inf_22 (by decide) rfl rfl).q ?_ | refine l_q (by decide) (p_faddro (i := 0) 0 Tryd.underlying25 rfl inf_22 (by decide) rfl rfl).q ?_
  first | refine l_q (by decide) (r_loado Tryd.underlying22 rfl rfl (by repeat constructor) (by rfl)).q ?_ | refine l_q (by decide) (r_load1 Tryd.underlying22 rfl rfl (by first | exact .fact (by repeat constructor) | exact .own (by repeat constructor) (by decide) (fun _ => rfl) | exact SlIn.reads (by repeat constructor) (by assumption)) (by first | assumption | rfl) (by rfl)).q ?_ | refine l_q (by decide) (r_loadf Tryd.underlying22 rfl rfl (by first | exact .fact (by repeat constructor) | exact .own (by repeat constructor) (by decide) (fun _ => rfl) | exact SlIn.reads (by repeat constructor) (by assumption)) (by assumption) (by rfl)).q ?_
  refine l_q (by decide) (p_len_sl Tryd.underlying22 rfl).q ?_
  first | refine l_q (by decide) (p_gtr (j := 8) rfl rfl rfl rfl).q ?_ | refine l_q (by decide) (p_gtri rfl rfl).q ?_
  refine l_q (by decide) (p_move rfl).q ?_
  first | refine l_splitd (t := 8) rfl (fun h8 => ?_) (fun h8 => ?_) | refine l_splitb (t := 8) rfl (fun h8 => ?_) (fun h8 => ?_)
  ·skip
   refine l_off (j := 4) rfl rfl (by first | (simp; done) | (simp [undef]; done)) (by decide) ?_
   refine l_off (j := 4) rfl rfl (by first | (simp; done) | (simp [undef]; done)) (by decide) ?_
   refine l_off (j := 4) rfl rfl (by first | (simp; done) | (simp [undef]; done)) (by decide) ?_
   refine l_off (j := 4) rfl rfl (by first | (simp; done) | (simp [undef]; done)) (by decide) ?_
   refine l_q (by decide) (p_pick rfl rfl).q ?_
   refine l_nil ?_
   refine c_join (()) ?inv ?sub ?perm ?facts
   case sub => exact ⟨rfl, (by first | rfl | exact congrArg (fun b => some (Value.bool b)) (decide_eq_true (by omega)).symm | exact congrArg (fun b => some (Value.bool b)) (decide_eq_false (by omega)).symm | exact congrArg (fun b => some (Value.bool b)) (decide_eq_decide.2 (by omega))), trivial⟩
   case perm =>
    exact .refl _
   case facts => exact fun _ h => h
   case inv =>
    trivial
  ·skip
   first | refine l_g (j := 4) rfl rfl (by decide) (p_faddr (i := 1) 1 Tryd.underlying25 rfl inf_23 (by decide) rfl rfl).q ?_ | refine l_g (j := 4) rfl rfl (by decide) (p_faddro (i := 1) 1 Tryd.underlying25 rfl inf_23 (by decide) rfl rfl).q ?_
   first | refine l_g (j := 4) rfl rfl (by decide) (r_loado Tryd.underlying23 rfl rfl (by repeat constructor) (by rfl)).q ?_ | refine l_g (j := 4) rfl rfl (by decide) (r_load1 Tryd.underlying23 rfl rfl (by first | exact .fact (by repeat constructor) | exact .own (by repeat constructor) (by decide) (fun _ => rfl) | exact SlIn.reads (by repeat constructor) (by assumption)) (by first | assumption | rfl) (by rfl)).q ?_ | refine l_g (j := 4) rfl rfl (by decide) (r_loadf Tryd.underlying23 rfl rfl (by first | exact .fact (by repeat constructor) | exact .own (by repeat constructor) (by decide) (fun _ => rfl) | exact SlIn.reads (by repeat constructor) (by assumption)) (by assumption) (by rfl)).q ?_
   refine l_g (j := 4) rfl rfl (by decide) (p_len_sl Tryd.underlying23 rfl).q ?_
   first | refine l_g (j := 4) rfl rfl (by decide) (p_gtr (j := 8) rfl rfl rfl rfl).q ?_ | refine l_g (j := 4) rfl rfl (by decide) (p_gtri rfl rfl).q ?_
   refine l_q (by decide) (p_pick rfl rfl).q ?_
   refine l_nil ?_
   refine c_join (()) ?inv ?sub ?perm ?facts
   case sub => exact ⟨rfl, (by first | rfl | exact congrArg (fun b => some (Value.bool b)) (decide_eq_true (by omega)).symm | exact congrArg (fun b => some (Value.bool b)) (decide_eq_false (by omega)).symm | exact congrArg (fun b => some (Value.bool b)) (decide_eq_decide.2 (by omega))), trivial⟩
   case perm =>
    exact .refl _
   case facts => exact fun _ h => h
   case inv =>
    trivial
 rintro uu hmeet
 show Cont _ _ _ _ [(1, .pointer (some ⟨b1, 0, none⟩)), (13, .bool (decide (8 < X.xs.length ∨ 8 < X.ins.length)))] ([iCells b1 25 [.slice X.A X.xs.length X.c, .slice X.B X.ins.length X.d, .int .i64 X.sw]]) [Rd X.xs, Sl 1 intF X.B X.ins, Sl 3 colF X.A X.xs]
 first | refine c_dec rfl (fun h13 => ?_) (fun h13 => ?_) | refine c_cond rfl (fun h13 => ?_) (fun h13 => ?_)
 ·skip
  refine c_seq ?_
  refine c_reg ?_
  refine l_q (by decide) (p_assign rfl).q ?_
  refine l_nil ?_
  refine c_ret ?_
  refine c_ret1 rfl rfl (fun w hs => ?_)
  exact ⟨by rw [dec_false (fun h => by have := h.1; have := h.2.1; omega)], hs.ext⟩
 ·skip
  refine c_skip ?_
  refine c_seq ?_
  refine c_seq ?_
  refine c_reg ?_
  refine l_q (by decide) (p_assign (v := .int .i64 ((0 : Nat) : Int)) rfl).q ?_
  refine l_nil ?_
  refine c_block ?_
  refine c_loop (S := Nat) (fun zs => zs ≤ X.xs.length ∧ ∀ x, x ∈ X.xs.take zs → x.o.read.length ≤ 8) (fun zs => X.xs.length - zs) (fun zs => [(1, .pointer (some ⟨b1, 0, none⟩)), (3, .int .i64 (zs : Int))]) (fun zs => [iCells b1 25 [.slice X.A X.xs.length X.c, .slice X.B X.ins.length X.d, .int .i64 X.sw]]) (fun zs => [Rd X.xs, Sl 1 intF X.B X.ins, Sl 3 colF X.A X.xs]) (0) ?_ ?_ ?_ ?_ ?_
  · show (0) ≤ X.xs.length ∧ ∀ x, x ∈ X.xs.take (0) → x.o.read.length ≤ 8
    exact ⟨Nat.zero_le _, fun t h => absurd h (by simp)⟩
  · exact ⟨rfl, rfl, trivial⟩
  · exact .refl _
  · simp
  rintro k hinv
  have hinv : k ≤ X.xs.length ∧ ∀ x, x ∈ X.xs.take k → x.o.read.length ≤ 8 := hinv
  obtain ⟨hk, he⟩ := hinv
  show Cont _ _ _ _ [(1, .pointer (some ⟨b1, 0, none⟩)), (3, .int .i64 (k : Int))] ([iCells b1 25 [.slice X.A X.xs.length X.c, .slice X.B X.ins.length X.d, .int .i64 X.sw]]) [Rd X.xs, Sl 1 intF X.B X.ins, Sl 3 colF X.A X.xs]
  refine c_seq ?_
  refine c_seq ?_
  refine c_reg ?_
  refine l_q (by decide) (p_move rfl).q ?_
  first | refine l_q (by decide) (p_faddr (i := 0) 0 Tryd.underlying25 rfl inf_22 (by decide) rfl rfl).q ?_ | refine l_q (by decide) (p_faddro (i := 0) 0 Tryd.underlying25 rfl inf_22 (by decide) rfl rfl).q ?_
  first | refine l_q (by decide) (r_loado Tryd.underlying22 rfl rfl (by repeat constructor) (by rfl)).q ?_ | refine l_q (by decide) (r_load1 Tryd.underlying22 rfl rfl (by first | exact .fact (by repeat constructor) | exact .own (by repeat constructor) (by decide) (fun _ => rfl) | exact SlIn.reads (by repeat constructor) (by assumption)) (by first | assumption | rfl) (by rfl)).q ?_ | refine l_q (by decide) (r_loadf Tryd.underlying22 rfl rfl (by first | exact .fact (by repeat constructor) | exact .own (by repeat constructor) (by decide) (fun _ => rfl) | exact SlIn.reads (by repeat constructor) (by assumption)) (by assumption) (by rfl)).q ?_
  refine l_q (by decide) (p_len_sl Tryd.underlying22 rfl).q ?_
  first | refine l_q (by decide) (p_lss rfl rfl rfl rfl).q ?_ | refine l_q (by decide) (p_lssi rfl rfl).q ?_
  refine l_nil ?_
  first | refine c_dec rfl (fun h18 => ?_) (fun h18 => ?_) | refine c_cond rfl (fun h18 => ?_) (fun h18 => ?_)
  ·skip
   obtain ⟨u, hu⟩ := at_some (l := X.xs) (n := k) (by omega)
   refine c_skip ?_
   refine c_seq ?_
   refine c_block ?_
   refine c_seq ?_
   refine c_reg ?_
   first | refine l_q (by decide) (p_faddr (i := 0) 0 Tryd.underlying25 rfl inf_22 (by decide) rfl rfl).q ?_ | refine l_q (by decide) (p_faddro (i := 0) 0 Tryd.underlying25 rfl inf_22 (by decide) rfl rfl).q ?_
   first | refine l_q (by decide) (r_loado Tryd.underlying22 rfl rfl (by repeat constructor) (by rfl)).q ?_ | refine l_q (by decide) (r_load1 Tryd.underlying22 rfl rfl (by first | exact .fact (by repeat constructor) | exact .own (by repeat constructor) (by decide) (fun _ => rfl) | exact SlIn.reads (by repeat constructor) (by assumption)) (by first | assumption | rfl) (by rfl)).q ?_ | refine l_q (by decide) (r_loadf Tryd.underlying22 rfl rfl (by first | exact .fact (by repeat constructor) | exact .own (by repeat constructor) (by decide) (fun _ => rfl) | exact SlIn.reads (by repeat constructor) (by assumption)) (by assumption) (by rfl)).q ?_
   refine l_q (by decide) (p_move rfl).q ?_
   first | refine l_q (by decide) (r_index Tryd.underlying22 inf_44 rfl rfl rfl (by first | exact .fact (by repeat constructor) | exact .own (by repeat constructor) (by decide) (fun _ => rfl) | exact SlIn.reads (by repeat constructor) (by assumption)) rfl (by omega)).q ?_ | refine l_q (by decide) (r_index Tryd.underlying22 inf_44 rfl rfl rfl (by first | exact .fact (by repeat constructor) | exact .own (by repeat constructor) (by decide) (fun _ => rfl) | exact SlIn.reads (by repeat constructor) (by assumption)) rfl (by decide)).q ?_ | refine l_q (by decide) (p_indexo Tryd.underlying22 inf_44 rfl rfl rfl (by omega)).q ?_
   first | refine l_q (by decide) (p_faddr (i := 1) 1 Tryd.underlying44 rfl inf_23 (by decide) rfl rfl).q ?_ | refine l_q (by decide) (p_faddro (i := 1) 1 Tryd.underlying44 rfl inf_23 (by decide) rfl rfl).q ?_
   first | refine l_q (by decide) (r_loado Tryd.underlying23 rfl rfl (by repeat constructor) (by rfl)).q ?_ | refine l_q (by decide) (r_load1 Tryd.underlying23 rfl rfl (by first | exact .fact (by repeat constructor) | exact .own (by repeat constructor) (by decide) (fun _ => rfl) | exact SlIn.reads (by repeat constructor) (by assumption)) (by first | assumption | rfl) (by rfl)).q ?_ | refine l_q (by decide) (r_loadf Tryd.underlying23 rfl rfl (by first | exact .fact (by repeat constructor) | exact .own (by repeat constructor) (by decide) (fun _ => rfl) | exact SlIn.reads (by repeat constructor) (by assumption)) (by assumption) (by rfl)).q ?_
   refine l_q (by decide) (p_len_sl Tryd.underlying23 rfl).q ?_
   first | refine l_q (by decide) (p_gtr (j := 8) rfl rfl rfl rfl).q ?_ | refine l_q (by decide) (p_gtri rfl rfl).q ?_
   refine l_nil ?_
   first | refine c_dec rfl (fun h28 => ?_) (fun h28 => ?_) | refine c_cond rfl (fun h28 => ?_) (fun h28 => ?_)
   ·skip
    refine c_seq ?_
    refine c_reg ?_
    refine l_q (by decide) (p_assign rfl).q ?_
    refine l_nil ?_
    refine c_ret ?_
    refine c_ret1 rfl rfl (fun w hs => ?_)
    exact ⟨by rw [dec_false (fun h => by have := h.2.2 u (List.mem_of_getElem? hu); omega)], hs.ext⟩
   ·skip
    refine c_skip ?_
    refine c_reg ?_
    refine l_q (by decide) (p_move rfl).q ?_
    first | refine l_q (by decide) (p_add (j := 1) rfl rfl rfl rfl (by show _ ≤ (9223372036854775807 : Nat); omega)).q ?_ | refine l_q (by decide) (p_addi rfl rfl (by show (-9223372036854775808 : Int) ≤ _; omega) (by show _ ≤ ((9223372036854775807 : Nat) : Int); omega)).q ?_
    refine l_q (by decide) (p_assign rfl).q ?_
    refine l_nil ?_
    refine c_join ((k + 1)) ?_ ?_ ?_ ?_
    ·show ((k + 1) ≤ X.xs.length ∧ ∀ x, x ∈ X.xs.take (k + 1) → x.o.read.length ≤ 8) ∧ X.xs.length - (k + 1) < X.xs.length - k
     refine ⟨⟨by omega, fun t ht => ?_⟩, by omega⟩
     rw [take_at hu] at ht
     rcases List.mem_append.1 ht with h | h
     · exact he t h
     · rw [List.mem_singleton.1 h]; omega
    · exact ⟨rfl, rfl, trivial⟩
    ·show List.Perm _ ([iCells b1 25 [.slice X.A X.xs.length X.c, .slice X.B X.ins.length X.d, .int .i64 X.sw]])
     exact .refl _
    · exact fun _ h => h
  ·skip
   refine c_exit ?_
   refine c_here ?_
   refine c_seq ?_
   refine c_reg ?_
   refine l_q (by decide) (p_assign rfl).q ?_
   refine l_nil ?_
   refine c_ret ?_
   refine c_ret1 rfl rfl (fun w hs => ?_)
   rw [List.take_of_length_le (by omega)] at he
   exact ⟨by rw [dec_true ⟨by omega, by omega, he⟩], hs.ext⟩

theorem column_ok (x : XCol) (n : Nat) (hn : n ≤ 140737488355328) (w : World) (hq : Sl 1 intF x.A x.o.read w) :
   Calls Tryd.prog 40 #[.agg #[.int .i64 x.o.kind, .slice x.A x.o.read.length x.c, .int .i64 x.o.del], .int .i64 (n : Int)] w (Ret fun v w' => v = .bool (dec (Ed.Okc n x.o)) ∧ Ext [] w w') := by
 refine calls_fx (l := [.agg #[.int .i64 x.o.kind, .slice x.A x.o.read.length x.c, .int .i64 x.o.del], .int .i64 (n : Int)]) Tryd.func40 rfl Tryd.ntmps40 (Nat.le_of_ble_eq_true rfl) ((St.start w).old hq (dep_sl (by decide) hq)) ?_
 refine c_seq ?_
 refine c_reg ?_
 refine l_box (by decide) rfl _ rfl (fun b2 => ?_)
 refine l_q (by decide) (p_assign rfl).q ?_
 refine l_nil ?_
 refine c_seq ?_
 refine c_seq ?_
 refine c_meetn (S := Unit) (fun zs => True) (fun zs => [(1, .int .i64 (n : Int)), (2, .pointer (some ⟨b2, 0, none⟩)), (37, .bool (decide (x.o.kind < -1 ∨ x.o.kind ≥ n ∨ x.o.read.length ≠ n ∨ x.o.del < 1 ∨ (60000 < x.o.del ∧ x.o.del ≠ 1099511627776))))]) (fun zs => [iCells b2 44 [.int .i64 x.o.kind, .slice x.A x.o.read.length x.c, .int .i64 x.o.del]]) (fun zs => [Sl 1 intF x.A x.o.read]) ?_ ?_
 ·skip
  refine c_reg ?_
  first | refine l_q (by decide) (p_faddr (i := 0) 0 Tryd.underlying44 rfl inf_3 (by decide) rfl rfl).q ?_ | refine l_q (by decide) (p_faddro (i := 0) 0 Tryd.underlying44 rfl inf_3 (by decide) rfl rfl).q ?_
  first | refine l_q (by decide) (r_loado Tryd.underlying3 rfl rfl (by repeat constructor) (by rfl)).q ?_ | refine l_q (by decide) (r_load1 Tryd.underlying3 rfl rfl (by first | exact .fact (by repeat constructor) | exact .own (by repeat constructor) (by decide) (fun _ => rfl) | exact SlIn.reads (by repeat constructor) (by assumption)) (by first | assumption | rfl) (by rfl)).q ?_ | refine l_q (by decide) (r_loadf Tryd.underlying3 rfl rfl (by first | exact .fact (by repeat constructor) | exact .own (by repeat constructor) (by decide) (fun _ => rfl) | exact SlIn.reads (by repeat constructor) (by assumption)) (by assumption) (by rfl)).q ?_
  first | refine l_q (by decide) (p_lss rfl rfl rfl rfl).q ?_ | refine l_q (by decide) (p_lssi rfl rfl).q ?_
  refine l_q (by decide) (p_move rfl).q ?_
  first | refine l_splitd (t := 10) rfl (fun h10 => ?_) (fun h10 => ?_) | refine l_splitb (t := 10) rfl (fun h10 => ?_) (fun h10 => ?_)
  ·skip
   refine l_off (j := 3) rfl rfl (by first | (simp; done) | (simp [undef]; done)) (by decide) ?_
   refine l_off (j := 3) rfl rfl (by first | (simp; done) | (simp [undef]; done)) (by decide) ?_
   refine l_off (j := 3) rfl rfl (by first | (simp; done) | (simp [undef]; done)) (by decide) ?_
   refine l_off (j := 3) rfl rfl (by first | (simp; done) | (simp [undef]; done)) (by decide) ?_
   refine l_q (by decide) (p_pick rfl rfl).q ?_
   refine l_q (by decide) (p_move rfl).q ?_
   refine l_off (j := 9) rfl rfl (by first | (simp; done) | (simp [undef]; done)) (by decide) ?_
   refine l_off (j := 9) rfl rfl (by first | (simp; done) | (simp [undef]; done)) (by decide) ?_
   refine l_off (j := 9) rfl rfl (by first | (simp; done) | (simp [undef]; done)) (by decide) ?_
   refine l_off (j := 9) rfl rfl (by first | (simp; done) | (simp [undef]; done)) (by decide) ?_
   refine l_off (j := 9) rfl rfl (by first | (simp; done) | (simp [undef]; done)) (by decide) ?_
   refine l_q (by decide) (p_pick rfl rfl).q ?_
   refine l_q (by decide) (p_move rfl).q ?_
   refine l_off (j := 16) rfl rfl (by first | (simp; done) | (simp [undef]; done)) (by decide) ?_
   refine l_off (j := 16) rfl rfl (by first | (simp; done) | (simp [undef]; done)) (by decide) ?_
   refine l_off (j := 16) rfl rfl (by first | (simp; done) | (simp [undef]; done)) (by decide) ?_
   refine l_q (by decide) (p_pick rfl rfl).q ?_
   refine l_q (by decide) (p_move rfl).q ?_
   refine l_off (j := 21) rfl rfl (by first | (simp; done) | (simp [undef]; done)) (by decide) ?_
   refine l_off (j := 21) rfl rfl (by first | (simp; done) | (simp [undef]; done)) (by decide) ?_
   refine l_off (j := 21) rfl rfl (by first | (simp; done) | (simp [undef]; done)) (by decide) ?_
   refine l_off (j := 21) rfl rfl (by first | (simp; done) | (simp [undef]; done)) (by decide) ?_
   refine l_off (j := 25) rfl rfl (by first | (simp; done) | (simp [undef]; done)) (by decide) ?_
   refine l_off (j := 25) rfl rfl (by first | (simp; done) | (simp [undef]; done)) (by decide) ?_
   refine l_off (j := 25) rfl rfl (by first | (simp; done) | (simp [undef]; done)) (by decide) ?_
   refine l_off (j := 21) rfl rfl (by first | (simp; done) | (simp [undef]; done)) (by decide) ?_
   refine l_q (by decide) (p_pick rfl rfl).q ?_
   refine l_nil ?_
   refine c_join (()) ?inv ?sub ?perm ?facts
   case sub => exact ⟨rfl, rfl, (by first | rfl | exact congrArg (fun b => some (Value.bool b)) (decide_eq_true (by omega)).symm | exact congrArg (fun b => some (Value.bool b)) (decide_eq_false (by omega)).symm | exact congrArg (fun b => some (Value.bool b)) (decide_eq_decide.2 (by omega))), trivial⟩
   case perm =>
    exact .refl _
   case facts => exact fun _ h => h
   case inv =>
    trivial
  ·skip
   first | refine l_g (j := 3) rfl rfl (by decide) (p_faddr (i := 0) 0 Tryd.underlying44 rfl inf_3 (by decide) rfl rfl).q ?_ | refine l_g (j := 3) rfl rfl (by decide) (p_faddro (i := 0) 0 Tryd.underlying44 rfl inf_3 (by decide) rfl rfl).q ?_
   first | refine l_g (j := 3) rfl rfl (by decide) (r_loado Tryd.underlying3 rfl rfl (by repeat constructor) (by rfl)).q ?_ | refine l_g (j := 3) rfl rfl (by decide) (r_load1 Tryd.underlying3 rfl rfl (by first | exact .fact (by repeat constructor) | exact .own (by repeat constructor) (by decide) (fun _ => rfl) | exact SlIn.reads (by repeat constructor) (by assumption)) (by first | assumption | rfl) (by rfl)).q ?_ | refine l_g (j := 3) rfl rfl (by decide) (r_loadf Tryd.underlying3 rfl rfl (by first | exact .fact (by repeat constructor) | exact .own (by repeat constructor) (by decide) (fun _ => rfl) | exact SlIn.reads (by repeat constructor) (by assumption)) (by assumption) (by rfl)).q ?_
   refine l_g (j := 3) rfl rfl (by decide) (p_move rfl).q ?_
   first | refine l_g (j := 3) rfl rfl (by decide) (p_geq rfl rfl rfl rfl).q ?_ | refine l_g (j := 3) rfl rfl (by decide) (p_geqi rfl rfl).q ?_
   refine l_q (by decide) (p_pick rfl rfl).q ?_
   refine l_q (by decide) (p_move rfl).q ?_
   first | refine l_splitd (t := 16) rfl (fun h16 => ?_) (fun h16 => ?_) | refine l_splitb (t := 16) rfl (fun h16 => ?_) (fun h16 => ?_)
   ·skip
    refine l_off (j := 9) rfl rfl (by first | (simp; done) | (simp [undef]; done)) (by decide) ?_
    refine l_off (j := 9) rfl rfl (by first | (simp; done) | (simp [undef]; done)) (by decide) ?_
    refine l_off (j := 9) rfl rfl (by first | (simp; done) | (simp [undef]; done)) (by decide) ?_
    refine l_off (j := 9) rfl rfl (by first | (simp; done) | (simp [undef]; done)) (by decide) ?_
    refine l_off (j := 9) rfl rfl (by first | (simp; done) | (simp [undef]; done)) (by decide) ?_
    refine l_q (by decide) (p_pick rfl rfl).q ?_
    refine l_q (by decide) (p_move rfl).q ?_
    refine l_off (j := 16) rfl rfl (by first | (simp; done) | (simp [undef]; done)) (by decide) ?_
    refine l_off (j := 16) rfl rfl (by first | (simp; done) | (simp [undef]; done)) (by decide) ?_
    refine l_off (j := 16) rfl rfl (by first | (simp; done) | (simp [undef]; done)) (by decide) ?_
    refine l_q (by decide) (p_pick rfl rfl).q ?_
    refine l_q (by decide) (p_move rfl).q ?_
    refine l_off (j := 21) rfl rfl (by first | (simp; done) | (simp [undef]; done)) (by decide) ?_
    refine l_off (j := 21) rfl rfl (by first | (simp; done) | (simp [undef]; done)) (by decide) ?_
    refine l_off (j := 21) rfl rfl (by first | (simp; done) | (simp [undef]; done)) (by decide) ?_
    refine l_off (j := 21) rfl rfl (by first | (simp; done) | (simp [undef]; done)) (by decide) ?_
    refine l_off (j := 25) rfl rfl (by first | (simp; done) | (simp [undef]; done)) (by decide) ?_
    refine l_off (j := 25) rfl rfl (by first | (simp; done) | (simp [undef]; done)) (by decide) ?_
    refine l_off (j := 25) rfl rfl (by first | (simp; done) | (simp [undef]; done)) (by decide) ?_
    refine l_off (j := 21) rfl rfl (by first | (simp; done) | (simp [undef]; done)) (by decide) ?_
    refine l_q (by decide) (p_pick rfl rfl).q ?_
    refine l_nil ?_
    refine c_join (()) ?inv ?sub ?perm ?facts
    case sub => exact ⟨rfl, rfl, (by first | rfl | exact congrArg (fun b => some (Value.bool b)) (decide_eq_true (by omega)).symm | exact congrArg (fun b => some (Value.bool b)) (decide_eq_false (by omega)).symm | exact congrArg (fun b => some (Value.bool b)) (decide_eq_decide.2 (by omega))), trivial⟩
    case perm =>
     exact .refl _
    case facts => exact fun _ h => h
    case inv =>
     trivial
   ·skip
    first | refine l_g (j := 9) rfl rfl (by decide) (p_faddr (i := 1) 1 Tryd.underlying44 rfl inf_23 (by decide) rfl rfl).q ?_ | refine l_g (j := 9) rfl rfl (by decide) (p_faddro (i := 1) 1 Tryd.underlying44 rfl inf_23 (by decide) rfl rfl).q ?_
    first | refine l_g (j := 9) rfl rfl (by decide) (r_loado Tryd.underlying23 rfl rfl (by repeat constructor) (by rfl)).q ?_ | refine l_g (j := 9) rfl rfl (by decide) (r_load1 Tryd.underlying23 rfl rfl (by first | exact .fact (by repeat constructor) | exact .own (by repeat constructor) (by decide) (fun _ => rfl) | exact SlIn.reads (by repeat constructor) (by assumption)) (by first | assumption | rfl) (by rfl)).q ?_ | refine l_g (j := 9) rfl rfl (by decide) (r_loadf Tryd.underlying23 rfl rfl (by first | exact .fact (by repeat constructor) | exact .own (by repeat constructor) (by decide) (fun _ => rfl) | exact SlIn.reads (by repeat constructor) (by assumption)) (by assumption) (by rfl)).q ?_
    refine l_g (j := 9) rfl rfl (by decide) (p_len_sl Tryd.underlying23 rfl).q ?_
    refine l_g (j := 9) rfl rfl (by decide) (p_move rfl).q ?_
    first | refine l_g (j := 9) rfl rfl (by decide) (p_neq rfl rfl rfl rfl).q ?_ | refine l_g (j := 9) rfl rfl (by decide) (p_neqi rfl rfl).q ?_
    refine l_q (by decide) (p_pick rfl rfl).q ?_
    refine l_q (by decide) (p_move rfl).q ?_
    first | refine l_splitd (t := 23) rfl (fun h23 => ?_) (fun h23 => ?_) | refine l_splitb (t := 23) rfl (fun h23 => ?_) (fun h23 => ?_)
    ·skip
     refine l_off (j := 16) rfl rfl (by first | (simp; done) | (simp [undef]; done)) (by decide) ?_
     refine l_off (j := 16) rfl rfl (by first | (simp; done) | (simp [undef]; done)) (by decide) ?_
     refine l_off (j := 16) rfl rfl (by first | (simp; done) | (simp [undef]; done)) (by decide) ?_
     refine l_q (by decide) (p_pick rfl rfl).q ?_
     refine l_q (by decide) (p_move rfl).q ?_
     refine l_off (j := 21) rfl rfl (by first | (simp; done) | (simp [undef]; done)) (by decide) ?_
     refine l_off (j := 21) rfl rfl (by first | (simp; done) | (simp [undef]; done)) (by decide) ?_
     refine l_off (j := 21) rfl rfl (by first | (simp; done) | (simp [undef]; done)) (by decide) ?_
     refine l_off (j := 21) rfl rfl (by first | (simp; done) | (simp [undef]; done)) (by decide) ?_
     refine l_off (j := 25) rfl rfl (by first | (simp; done) | (simp [undef]; done)) (by decide) ?_
     refine l_off (j := 25) rfl rfl (by first | (simp; done) | (simp [undef]; done)) (by decide) ?_
     refine l_off (j := 25) rfl rfl (by first | (simp; done) | (simp [undef]; done)) (by decide) ?_
     refine l_off (j := 21) rfl rfl (by first | (simp; done) | (simp [undef]; done)) (by decide) ?_
     refine l_q (by decide) (p_pick rfl rfl).q ?_
     refine l_nil ?_
     refine c_join (()) ?inv ?sub ?perm ?facts
     case sub => exact ⟨rfl, rfl, (by first | rfl | exact congrArg (fun b => some (Value.bool b)) (decide_eq_true (by omega)).symm | exact congrArg (fun b => some (Value.bool b)) (decide_eq_false (by omega)).symm | exact congrArg (fun b => some (Value.bool b)) (decide_eq_decide.2 (by omega))), trivial⟩
     case perm =>
      exact .refl _
     case facts => exact fun _ h => h
     case inv =>
      trivial
    ·skip
     first | refine l_g (j := 16) rfl rfl (by decide) (p_faddr (i := 2) 2 Tryd.underlying44 rfl inf_3 (by decide) rfl rfl).q ?_ | refine l_g (j := 16) rfl rfl (by decide) (p_faddro (i := 2) 2 Tryd.underlying44 rfl inf_3 (by decide) rfl rfl).q ?_
     first | refine l_g (j := 16) rfl rfl (by decide) (r_loado Tryd.underlying3 rfl rfl (by repeat constructor) (by rfl)).q ?_ | refine l_g (j := 16) rfl rfl (by decide) (r_load1 Tryd.underlying3 rfl rfl (by first | exact .fact (by repeat constructor) | exact .own (by repeat constructor) (by decide) (fun _ => rfl) | exact SlIn.reads (by repeat constructor) (by assumption)) (by first | assumption | rfl) (by rfl)).q ?_ | refine l_g (j := 16) rfl rfl (by decide) (r_loadf Tryd.underlying3 rfl rfl (by first | exact .fact (by repeat constructor) | exact .own (by repeat constructor) (by decide) (fun _ => rfl) | exact SlIn.reads (by repeat constructor) (by assumption)) (by assumption) (by rfl)).q ?_
     first | refine l_g (j := 16) rfl rfl (by decide) (p_lss (j := 1) rfl rfl rfl rfl).q ?_ | refine l_g (j := 16) rfl rfl (by decide) (p_lssi rfl rfl).q ?_
     refine l_q (by decide) (p_pick rfl rfl).q ?_
     refine l_q (by decide) (p_move rfl).q ?_
     first | refine l_splitd (t := 28) rfl (fun h28 => ?_) (fun h28 => ?_) | refine l_splitb (t := 28) rfl (fun h28 => ?_) (fun h28 => ?_)
     ·skip
      refine l_off (j := 21) rfl rfl (by first | (simp; done) | (simp [undef]; done)) (by decide) ?_
      refine l_off (j := 21) rfl rfl (by first | (simp; done) | (simp [undef]; done)) (by decide) ?_
      refine l_off (j := 21) rfl rfl (by first | (simp; done) | (simp [undef]; done)) (by decide) ?_
      refine l_off (j := 21) rfl rfl (by first | (simp; done) | (simp [undef]; done)) (by decide) ?_
      refine l_off (j := 25) rfl rfl (by first | (simp; done) | (simp [undef]; done)) (by decide) ?_
      refine l_off (j := 25) rfl rfl (by first | (simp; done) | (simp [undef]; done)) (by decide) ?_
      refine l_off (j := 25) rfl rfl (by first | (simp; done) | (simp [undef]; done)) (by decide) ?_
      refine l_off (j := 21) rfl rfl (by first | (simp; done) | (simp [undef]; done)) (by decide) ?_
      refine l_q (by decide) (p_pick rfl rfl).q ?_
      refine l_nil ?_
      refine c_join (()) ?inv ?sub ?perm ?facts
      case sub => exact ⟨rfl, rfl, (by first | rfl | exact congrArg (fun b => some (Value.bool b)) (decide_eq_true (by omega)).symm | exact congrArg (fun b => some (Value.bool b)) (decide_eq_false (by omega)).symm | exact congrArg (fun b => some (Value.bool b)) (decide_eq_decide.2 (by omega))), trivial⟩
      case perm =>
       exact .refl _
      case facts => exact fun _ h => h
      case inv =>
       trivial
     ·skip
      first | refine l_g (j := 21) rfl rfl (by decide) (p_faddr (i := 2) 2 Tryd.underlying44 rfl inf_3 (by decide) rfl rfl).q ?_ | refine l_g (j := 21) rfl rfl (by decide) (p_faddro (i := 2) 2 Tryd.underlying44 rfl inf_3 (by decide) rfl rfl).q ?_
      first | refine l_g (j := 21) rfl rfl (by decide) (r_loado Tryd.underlying3 rfl rfl (by repeat constructor) (by rfl)).q ?_ | refine l_g (j := 21) rfl rfl (by decide) (r_load1 Tryd.underlying3 rfl rfl (by first | exact .fact (by repeat constructor) | exact .own (by repeat constructor) (by decide) (fun _ => rfl) | exact SlIn.reads (by repeat constructor) (by assumption)) (by first | assumption | rfl) (by rfl)).q ?_ | refine l_g (j := 21) rfl rfl (by decide) (r_loadf Tryd.underlying3 rfl rfl (by first | exact .fact (by repeat constructor) | exact .own (by repeat constructor) (by decide) (fun _ => rfl) | exact SlIn.reads (by repeat constructor) (by assumption)) (by assumption) (by rfl)).q ?_
      first | refine l_g (j := 21) rfl rfl (by decide) (p_gtr (j := 60000) rfl rfl rfl rfl).q ?_ | refine l_g (j := 21) rfl rfl (by decide) (p_gtri rfl rfl).q ?_
      refine l_g (j := 21) rfl rfl (by decide) (p_move rfl).q ?_
      first | refine l_splitd (t := 32) rfl (fun h32 => ?_) (fun h32 => ?_) | refine l_splitb (t := 32) rfl (fun h32 => ?_) (fun h32 => ?_)
      ·skip
       first | refine l_g (j := 25) rfl rfl (by decide) (p_faddr (i := 2) 2 Tryd.underlying44 rfl inf_3 (by decide) rfl rfl).q ?_ | refine l_g (j := 25) rfl rfl (by decide) (p_faddro (i := 2) 2 Tryd.underlying44 rfl inf_3 (by decide) rfl rfl).q ?_
       first | refine l_g (j := 25) rfl rfl (by decide) (r_loado Tryd.underlying3 rfl rfl (by repeat constructor) (by rfl)).q ?_ | refine l_g (j := 25) rfl rfl (by decide) (r_load1 Tryd.underlying3 rfl rfl (by first | exact .fact (by repeat constructor) | exact .own (by repeat constructor) (by decide) (fun _ => rfl) | exact SlIn.reads (by repeat constructor) (by assumption)) (by first | assumption | rfl) (by rfl)).q ?_ | refine l_g (j := 25) rfl rfl (by decide) (r_loadf Tryd.underlying3 rfl rfl (by first | exact .fact (by repeat constructor) | exact .own (by repeat constructor) (by decide) (fun _ => rfl) | exact SlIn.reads (by repeat constructor) (by assumption)) (by assumption) (by rfl)).q ?_
       first | refine l_g (j := 25) rfl rfl (by decide) (p_neq (j := 1099511627776) rfl rfl rfl rfl).q ?_ | refine l_g (j := 25) rfl rfl (by decide) (p_neqi rfl rfl).q ?_
       refine l_g (j := 21) rfl rfl (by decide) (p_pick rfl rfl).q ?_
       refine l_q (by decide) (p_pick rfl rfl).q ?_
       refine l_nil ?_
       refine c_join (()) ?inv ?sub ?perm ?facts
       case sub => exact ⟨rfl, rfl, (by first | rfl | exact congrArg (fun b => some (Value.bool b)) (decide_eq_true (by omega)).symm | exact congrArg (fun b => some (Value.bool b)) (decide_eq_false (by omega)).symm | exact congrArg (fun b => some (Value.bool b)) (decide_eq_decide.2 (by omega))), trivial⟩
       case perm =>
        exact .refl _
       case facts => exact fun _ h => h
       case inv =>
        trivial
      ·skip
       refine l_off (j := 25) rfl rfl (by first | (simp; done) | (simp [undef]; done)) (by decide) ?_
       refine l_off (j := 25) rfl rfl (by first | (simp; done) | (simp [undef]; done)) (by decide) ?_
       refine l_off (j := 25) rfl rfl (by first | (simp; done) | (simp [undef]; done)) (by decide) ?_
       refine l_g (j := 21) rfl rfl (by decide) (p_pick rfl rfl).q ?_
       refine l_q (by decide) (p_pick rfl rfl).q ?_
       refine l_nil ?_
       refine c_join (()) ?inv ?sub ?perm ?facts
       case sub => exact ⟨rfl, rfl, (by first | rfl | exact congrArg (fun b => some (Value.bool b)) (decide_eq_true (by omega)).symm | exact congrArg (fun b => some (Value.bool b)) (decide_eq_false (by omega)).symm | exact congrArg (fun b => some (Value.bool b)) (decide_eq_decide.2 (by omega))), trivial⟩
       case perm =>
        exact .refl _
       case facts => exact fun _ h => h
       case inv =>
        trivial
 rintro uu hmeet
 show Cont _ _ _ _ [(1, .int .i64 (n : Int)), (2, .pointer (some ⟨b2, 0, none⟩)), (37, .bool (decide (x.o.kind < -1 ∨ x.o.kind ≥ n ∨ x.o.read.length ≠ n ∨ x.o.del < 1 ∨ (60000 < x.o.del ∧ x.o.del ≠ 1099511627776))))] ([iCells b2 44 [.int .i64 x.o.kind, .slice x.A x.o.read.length x.c, .int .i64 x.o.del]]) [Sl 1 intF x.A x.o.read]
 first | refine c_dec rfl (fun h37 => ?_) (fun h37 => ?_) | refine c_cond rfl (fun h37 => ?_) (fun h37 => ?_)
 ·skip
  refine c_seq ?_
  refine c_reg ?_
  refine l_q (by decide) (p_assign rfl).q ?_
  refine l_nil ?_
  refine c_ret ?_
  refine c_ret1 rfl rfl (fun w hs => ?_)
  exact ⟨by rw [dec_false (fun h => by have := h.lo; have := h.hi; have := h.len; have := h.d1; have := h.d2; unfold Ed.inf at this; omega)], hs.ext⟩
 ·skip
  refine c_skip ?_
  refine c_seq ?_
  refine c_seq ?_
  refine c_reg ?_
  refine l_q (by decide) (p_assign (v := .int .i64 ((0 : Nat) : Int)) rfl).q ?_
  refine l_nil ?_
  refine c_block ?_
  refine c_loop (S := Nat) (fun zs => zs ≤ n ∧ ∀ t : Nat, t < zs → ∃ u, x.o.read[t]? = some u ∧ (if (t : Int) = x.o.kind then u = 0 else (u = -1 ∨ (1 ≤ u ∧ u ≤ 60000)))) (fun zs => n - zs) (fun zs => [(1, .int .i64 (n : Int)), (2, .pointer (some ⟨b2, 0, none⟩)), (5, .int .i64 (zs : Int))]) (fun zs => [iCells b2 44 [.int .i64 x.o.kind, .slice x.A x.o.read.length x.c, .int .i64 x.o.del]]) (fun zs => [Sl 1 intF x.A x.o.read]) (0) ?_ ?_ ?_ ?_ ?_
  · show (0) ≤ n ∧ ∀ t : Nat, t < (0) → ∃ u, x.o.read[t]? = some u ∧ (if (t : Int) = x.o.kind then u = 0 else (u = -1 ∨ (1 ≤ u ∧ u ≤ 60000)))
    exact ⟨Nat.zero_le _, fun t h => absurd h (by omega)⟩
  · exact ⟨rfl, rfl, rfl, trivial⟩
  · exact .refl _
  · simp
  rintro k hinv
  have hinv : k ≤ n ∧ ∀ t : Nat, t < k → ∃ u, x.o.read[t]? = some u ∧ (if (t : Int) = x.o.kind then u = 0 else (u = -1 ∨ (1 ≤ u ∧ u ≤ 60000))) := hinv
  obtain ⟨hk, he⟩ := hinv
  show Cont _ _ _ _ [(1, .int .i64 (n : Int)), (2, .pointer (some ⟨b2, 0, none⟩)), (5, .int .i64 (k : Int))] ([iCells b2 44 [.int .i64 x.o.kind, .slice x.A x.o.read.length x.c, .int .i64 x.o.del]]) [Sl 1 intF x.A x.o.read]
  refine c_seq ?_
  refine c_seq ?_
  refine c_reg ?_
  refine l_q (by decide) (p_move rfl).q ?_
  refine l_q (by decide) (p_move rfl).q ?_
  first | refine l_q (by decide) (p_lss rfl rfl rfl rfl).q ?_ | refine l_q (by decide) (p_lssi rfl rfl).q ?_
  refine l_nil ?_
  first | refine c_dec rfl (fun h40 => ?_) (fun h40 => ?_) | refine c_cond rfl (fun h40 => ?_) (fun h40 => ?_)
  ·skip
   obtain ⟨u, hu⟩ := at_some (l := x.o.read) (n := k) (by omega)
   refine c_skip ?_
   refine c_seq ?_
   refine c_block ?_
   refine c_seq ?_
   refine c_reg ?_
   first | refine l_q (by decide) (p_faddr (i := 1) 1 Tryd.underlying44 rfl inf_23 (by decide) rfl rfl).q ?_ | refine l_q (by decide) (p_faddro (i := 1) 1 Tryd.underlying44 rfl inf_23 (by decide) rfl rfl).q ?_
   first | refine l_q (by decide) (r_loado Tryd.underlying23 rfl rfl (by repeat constructor) (by rfl)).q ?_ | refine l_q (by decide) (r_load1 Tryd.underlying23 rfl rfl (by first | exact .fact (by repeat constructor) | exact .own (by repeat constructor) (by decide) (fun _ => rfl) | exact SlIn.reads (by repeat constructor) (by assumption)) (by first | assumption | rfl) (by rfl)).q ?_ | refine l_q (by decide) (r_loadf Tryd.underlying23 rfl rfl (by first | exact .fact (by repeat constructor) | exact .own (by repeat constructor) (by decide) (fun _ => rfl) | exact SlIn.reads (by repeat constructor) (by assumption)) (by assumption) (by rfl)).q ?_
   refine l_q (by decide) (p_move rfl).q ?_
   first | refine l_q (by decide) (r_index Tryd.underlying23 inf_3 rfl rfl rfl (by first | exact .fact (by repeat constructor) | exact .own (by repeat constructor) (by decide) (fun _ => rfl) | exact SlIn.reads (by repeat constructor) (by assumption)) rfl (by omega)).q ?_ | refine l_q (by decide) (r_index Tryd.underlying23 inf_3 rfl rfl rfl (by first | exact .fact (by repeat constructor) | exact .own (by repeat constructor) (by decide) (fun _ => rfl) | exact SlIn.reads (by repeat constructor) (by assumption)) rfl (by decide)).q ?_ | refine l_q (by decide) (p_indexo Tryd.underlying23 inf_3 rfl rfl rfl (by omega)).q ?_
   first | refine l_q (by decide) (r_loado Tryd.underlying3 rfl rfl (by repeat constructor) (by rfl)).q ?_ | refine l_q (by decide) (r_load1 Tryd.underlying3 rfl rfl (by first | exact .fact (by repeat constructor) | exact .own (by repeat constructor) (by decide) (fun _ => rfl) | exact SlIn.reads (by repeat constructor) (by assumption)) (by first | assumption | rfl) (by rfl)).q ?_ | refine l_q (by decide) (r_loadf Tryd.underlying3 rfl rfl (by first | exact .fact (by repeat constructor) | exact .own (by repeat constructor) (by decide) (fun _ => rfl) | exact SlIn.reads (by repeat constructor) (by assumption)) (by assumption) (by rfl)).q ?_
   refine l_q (by decide) (p_assign rfl).q ?_
   refine l_nil ?_
   refine c_seq ?_
   refine c_meetn (S := Unit) (fun zs => True) (fun zs => [(1, .int .i64 (n : Int)), (2, .pointer (some ⟨b2, 0, none⟩)), (5, .int .i64 (k : Int)), (73, .bool (decide (((k : Int) = x.o.kind ∧ u ≠ 0) ∨ ((k : Int) ≠ x.o.kind ∧ u ≠ -1 ∧ (u < 1 ∨ u > 60000)))))]) (fun zs => [iCells b2 44 [.int .i64 x.o.kind, .slice x.A x.o.read.length x.c, .int .i64 x.o.del]]) (fun zs => [Sl 1 intF x.A x.o.read]) ?_ ?_
   ·skip
    refine c_reg ?_
    refine l_q (by decide) (p_move rfl).q ?_
    first | refine l_q (by decide) (p_faddr (i := 0) 0 Tryd.underlying44 rfl inf_3 (by decide) rfl rfl).q ?_ | refine l_q (by decide) (p_faddro (i := 0) 0 Tryd.underlying44 rfl inf_3 (by decide) rfl rfl).q ?_
    first | refine l_q (by decide) (r_loado Tryd.underlying3 rfl rfl (by repeat constructor) (by rfl)).q ?_ | refine l_q (by decide) (r_load1 Tryd.underlying3 rfl rfl (by first | exact .fact (by repeat constructor) | exact .own (by repeat constructor) (by decide) (fun _ => rfl) | exact SlIn.reads (by repeat constructor) (by assumption)) (by first | assumption | rfl) (by rfl)).q ?_ | refine l_q (by decide) (r_loadf Tryd.underlying3 rfl rfl (by first | exact .fact (by repeat constructor) | exact .own (by repeat constructor) (by decide) (fun _ => rfl) | exact SlIn.reads (by repeat constructor) (by assumption)) (by assumption) (by rfl)).q ?_
    first | refine l_q (by decide) (p_eql rfl rfl rfl rfl).q ?_ | refine l_q (by decide) (p_eqli rfl rfl).q ?_
    refine l_q (by decide) (p_move rfl).q ?_
    first | refine l_splitd (t := 52) rfl (fun h52 => ?_) (fun h52 => ?_) | refine l_splitb (t := 52) rfl (fun h52 => ?_) (fun h52 => ?_)
    ·skip
     refine l_g (j := 4) rfl rfl (by decide) (p_move rfl).q ?_
     first | refine l_g (j := 4) rfl rfl (by decide) (p_neq (j := 0) rfl rfl rfl rfl).q ?_ | refine l_g (j := 4) rfl rfl (by decide) (p_neqi rfl rfl).q ?_
     refine l_q (by decide) (p_pick rfl rfl).q ?_
     refine l_q (by decide) (p_move rfl).q ?_
     first | refine l_splitd (t := 56) rfl (fun h56 => ?_) (fun h56 => ?_) | refine l_splitb (t := 56) rfl (fun h56 => ?_) (fun h56 => ?_)
     ·skip
      refine l_off (j := 8) rfl rfl (by first | (simp; done) | (simp [undef]; done)) (by decide) ?_
      refine l_off (j := 8) rfl rfl (by first | (simp; done) | (simp [undef]; done)) (by decide) ?_
      refine l_off (j := 8) rfl rfl (by first | (simp; done) | (simp [undef]; done)) (by decide) ?_
      refine l_off (j := 8) rfl rfl (by first | (simp; done) | (simp [undef]; done)) (by decide) ?_
      refine l_off (j := 8) rfl rfl (by first | (simp; done) | (simp [undef]; done)) (by decide) ?_
      refine l_off (j := 13) rfl rfl (by first | (simp; done) | (simp [undef]; done)) (by decide) ?_
      refine l_off (j := 13) rfl rfl (by first | (simp; done) | (simp [undef]; done)) (by decide) ?_
      refine l_off (j := 8) rfl rfl (by first | (simp; done) | (simp [undef]; done)) (by decide) ?_
      refine l_off (j := 8) rfl rfl (by first | (simp; done) | (simp [undef]; done)) (by decide) ?_
      refine l_off (j := 17) rfl rfl (by first | (simp; done) | (simp [undef]; done)) (by decide) ?_
      refine l_off (j := 17) rfl rfl (by first | (simp; done) | (simp [undef]; done)) (by decide) ?_
      refine l_off (j := 17) rfl rfl (by first | (simp; done) | (simp [undef]; done)) (by decide) ?_
      refine l_off (j := 20) rfl rfl (by first | (simp; done) | (simp [undef]; done)) (by decide) ?_
      refine l_off (j := 20) rfl rfl (by first | (simp; done) | (simp [undef]; done)) (by decide) ?_
      refine l_off (j := 17) rfl rfl (by first | (simp; done) | (simp [undef]; done)) (by decide) ?_
      refine l_off (j := 8) rfl rfl (by first | (simp; done) | (simp [undef]; done)) (by decide) ?_
      refine l_q (by decide) (p_pick rfl rfl).q ?_
      refine l_nil ?_
      refine c_join (()) ?inv ?sub ?perm ?facts
      case sub => exact ⟨rfl, rfl, rfl, (by first | rfl | exact congrArg (fun b => some (Value.bool b)) (decide_eq_true (by omega)).symm | exact congrArg (fun b => some (Value.bool b)) (decide_eq_false (by omega)).symm | exact congrArg (fun b => some (Value.bool b)) (decide_eq_decide.2 (by omega))), trivial⟩
      case perm =>
       exact .refl _
      case facts => exact fun _ h => h
      case inv =>
       trivial
     ·skip
      refine l_g (j := 8) rfl rfl (by decide) (p_move rfl).q ?_
      first | refine l_g (j := 8) rfl rfl (by decide) (p_faddr (i := 0) 0 Tryd.underlying44 rfl inf_3 (by decide) rfl rfl).q ?_ | refine l_g (j := 8) rfl rfl (by decide) (p_faddro (i := 0) 0 Tryd.underlying44 rfl inf_3 (by decide) rfl rfl).q ?_
      first | refine l_g (j := 8) rfl rfl (by decide) (r_loado Tryd.underlying3 rfl rfl (by repeat constructor) (by rfl)).q ?_ | refine l_g (j := 8) rfl rfl (by decide) (r_load1 Tryd.underlying3 rfl rfl (by first | exact .fact (by repeat constructor) | exact .own (by repeat constructor) (by decide) (fun _ => rfl) | exact SlIn.reads (by repeat constructor) (by assumption)) (by first | assumption | rfl) (by rfl)).q ?_ | refine l_g (j := 8) rfl rfl (by decide) (r_loadf Tryd.underlying3 rfl rfl (by first | exact .fact (by repeat constructor) | exact .own (by repeat constructor) (by decide) (fun _ => rfl) | exact SlIn.reads (by repeat constructor) (by assumption)) (by assumption) (by rfl)).q ?_
      first | refine l_g (j := 8) rfl rfl (by decide) (p_neq rfl rfl rfl rfl).q ?_ | refine l_g (j := 8) rfl rfl (by decide) (p_neqi rfl rfl).q ?_
      refine l_g (j := 8) rfl rfl (by decide) (p_move rfl).q ?_
      first | refine l_splitd (t := 61) rfl (fun h61 => ?_) (fun h61 => ?_) | refine l_splitb (t := 61) rfl (fun h61 => ?_) (fun h61 => ?_)
      ·skip
       refine l_g (j := 13) rfl rfl (by decide) (p_move rfl).q ?_
       first | refine l_g (j := 13) rfl rfl (by decide) (p_neq rfl rfl rfl rfl).q ?_ | refine l_g (j := 13) rfl rfl (by decide) (p_neqi rfl rfl).q ?_
       refine l_g (j := 8) rfl rfl (by decide) (p_pick rfl rfl).q ?_
       refine l_g (j := 8) rfl rfl (by decide) (p_move rfl).q ?_
       first | refine l_splitd (t := 65) rfl (fun h65 => ?_) (fun h65 => ?_) | refine l_splitb (t := 65) rfl (fun h65 => ?_) (fun h65 => ?_)
       ·skip
        refine l_g (j := 17) rfl rfl (by decide) (p_move rfl).q ?_
        first | refine l_g (j := 17) rfl rfl (by decide) (p_lss (j := 1) rfl rfl rfl rfl).q ?_ | refine l_g (j := 17) rfl rfl (by decide) (p_lssi rfl rfl).q ?_
        refine l_g (j := 17) rfl rfl (by decide) (p_move rfl).q ?_
        first | refine l_splitd (t := 68) rfl (fun h68 => ?_) (fun h68 => ?_) | refine l_splitb (t := 68) rfl (fun h68 => ?_) (fun h68 => ?_)
        ·skip
         refine l_off (j := 20) rfl rfl (by first | (simp; done) | (simp [undef]; done)) (by decide) ?_
         refine l_off (j := 20) rfl rfl (by first | (simp; done) | (simp [undef]; done)) (by decide) ?_
         refine l_g (j := 17) rfl rfl (by decide) (p_pick rfl rfl).q ?_
         refine l_g (j := 8) rfl rfl (by decide) (p_pick rfl rfl).q ?_
         refine l_q (by decide) (p_pick rfl rfl).q ?_
         refine l_nil ?_
         refine c_join (()) ?inv ?sub ?perm ?facts
         case sub => exact ⟨rfl, rfl, rfl, (by first | rfl | exact congrArg (fun b => some (Value.bool b)) (decide_eq_true (by omega)).symm | exact congrArg (fun b => some (Value.bool b)) (decide_eq_false (by omega)).symm | exact congrArg (fun b => some (Value.bool b)) (decide_eq_decide.2 (by omega))), trivial⟩
         case perm =>
          exact .refl _
         case facts => exact fun _ h => h
         case inv =>
          trivial
        ·skip
         refine l_g (j := 20) rfl rfl (by decide) (p_move rfl).q ?_
         first | refine l_g (j := 20) rfl rfl (by decide) (p_gtr (j := 60000) rfl rfl rfl rfl).q ?_ | refine l_g (j := 20) rfl rfl (by decide) (p_gtri rfl rfl).q ?_
         refine l_g (j := 17) rfl rfl (by decide) (p_pick rfl rfl).q ?_
         refine l_g (j := 8) rfl rfl (by decide) (p_pick rfl rfl).q ?_
         refine l_q (by decide) (p_pick rfl rfl).q ?_
         refine l_nil ?_
         refine c_join (()) ?inv ?sub ?perm ?facts
         case sub => exact ⟨rfl, rfl, rfl, (by first | rfl | exact congrArg (fun b => some (Value.bool b)) (decide_eq_true (by omega)).symm | exact congrArg (fun b => some (Value.bool b)) (decide_eq_false (by omega)).symm | exact congrArg (fun b => some (Value.bool b)) (decide_eq_decide.2 (by omega))), trivial⟩
         case perm =>
          exact .refl _
         case facts => exact fun _ h => h
         case inv =>
          trivial
       ·skip
        refine l_off (j := 17) rfl rfl (by first | (simp; done) | (simp [undef]; done)) (by decide) ?_
        refine l_off (j := 17) rfl rfl (by first | (simp; done) | (simp [undef]; done)) (by decide) ?_
        refine l_off (j := 17) rfl rfl (by first | (simp; done) | (simp [undef]; done)) (by decide) ?_
        refine l_off (j := 20) rfl rfl (by first | (simp; done) | (simp [undef]; done)) (by decide) ?_
        refine l_off (j := 20) rfl rfl (by first | (simp; done) | (simp [undef]; done)) (by decide) ?_
        refine l_off (j := 17) rfl rfl (by first | (simp; done) | (simp [undef]; done)) (by decide) ?_
        refine l_g (j := 8) rfl rfl (by decide) (p_pick rfl rfl).q ?_
        refine l_q (by decide) (p_pick rfl rfl).q ?_
        refine l_nil ?_
        refine c_join (()) ?inv ?sub ?perm ?facts
        case sub => exact ⟨rfl, rfl, rfl, (by first | rfl | exact congrArg (fun b => some (Value.bool b)) (decide_eq_true (by omega)).symm | exact congrArg (fun b => some (Value.bool b)) (decide_eq_false (by omega)).symm | exact congrArg (fun b => some (Value.bool b)) (decide_eq_decide.2 (by omega))), trivial⟩
        case perm =>
         exact .refl _
        case facts => exact fun _ h => h
        case inv =>
         trivial
      ·skip
       refine l_off (j := 13) rfl rfl (by first | (simp; done) | (simp [undef]; done)) (by decide) ?_
       refine l_off (j := 13) rfl rfl (by first | (simp; done) | (simp [undef]; done)) (by decide) ?_
       refine l_g (j := 8) rfl rfl (by decide) (p_pick rfl rfl).q ?_
       refine l_g (j := 8) rfl rfl (by decide) (p_move rfl).q ?_
       refine l_off (j := 17) rfl rfl (by first | (simp; done) | (simp [undef]; done)) (by decide) ?_
       refine l_off (j := 17) rfl rfl (by first | (simp; done) | (simp [undef]; done)) (by decide) ?_
       refine l_off (j := 17) rfl rfl (by first | (simp; done) | (simp [undef]; done)) (by decide) ?_
       refine l_off (j := 20) rfl rfl (by first | (simp; done) | (simp [undef]; done)) (by decide) ?_
       refine l_off (j := 20) rfl rfl (by first | (simp; done) | (simp [undef]; done)) (by decide) ?_
       refine l_off (j := 17) rfl rfl (by first | (simp; done) | (simp [undef]; done)) (by decide) ?_
       refine l_g (j := 8) rfl rfl (by decide) (p_pick rfl rfl).q ?_
       refine l_q (by decide) (p_pick rfl rfl).q ?_
       refine l_nil ?_
       refine c_join (()) ?inv ?sub ?perm ?facts
       case sub => exact ⟨rfl, rfl, rfl, (by first | rfl | exact congrArg (fun b => some (Value.bool b)) (decide_eq_true (by omega)).symm | exact congrArg (fun b => some (Value.bool b)) (decide_eq_false (by omega)).symm | exact congrArg (fun b => some (Value.bool b)) (decide_eq_decide.2 (by omega))), trivial⟩
       case perm =>
        exact .refl _
       case facts => exact fun _ h => h
       case inv =>
        trivial
    ·skip
     refine l_off (j := 4) rfl rfl (by first | (simp; done) | (simp [undef]; done)) (by decide) ?_
     refine l_off (j := 4) rfl rfl (by first | (simp; done) | (simp [undef]; done)) (by decide) ?_
     refine l_q (by decide) (p_pick rfl rfl).q ?_
     refine l_q (by decide) (p_move rfl).q ?_
     refine l_g (j := 8) rfl rfl (by decide) (p_move rfl).q ?_
     first | refine l_g (j := 8) rfl rfl (by decide) (p_faddr (i := 0) 0 Tryd.underlying44 rfl inf_3 (by decide) rfl rfl).q ?_ | refine l_g (j := 8) rfl rfl (by decide) (p_faddro (i := 0) 0 Tryd.underlying44 rfl inf_3 (by decide) rfl rfl).q ?_
     first | refine l_g (j := 8) rfl rfl (by decide) (r_loado Tryd.underlying3 rfl rfl (by repeat constructor) (by rfl)).q ?_ | refine l_g (j := 8) rfl rfl (by decide) (r_load1 Tryd.underlying3 rfl rfl (by first | exact .fact (by repeat constructor) | exact .own (by repeat constructor) (by decide) (fun _ => rfl) | exact SlIn.reads (by repeat constructor) (by assumption)) (by first | assumption | rfl) (by rfl)).q ?_ | refine l_g (j := 8) rfl rfl (by decide) (r_loadf Tryd.underlying3 rfl rfl (by first | exact .fact (by repeat constructor) | exact .own (by repeat constructor) (by decide) (fun _ => rfl) | exact SlIn.reads (by repeat constructor) (by assumption)) (by assumption) (by rfl)).q ?_
     first | refine l_g (j := 8) rfl rfl (by decide) (p_neq rfl rfl rfl rfl).q ?_ | refine l_g (j := 8) rfl rfl (by decide) (p_neqi rfl rfl).q ?_
     refine l_g (j := 8) rfl rfl (by decide) (p_move rfl).q ?_
     first | refine l_splitd (t := 61) rfl (fun h61 => ?_) (fun h61 => ?_) | refine l_splitb (t := 61) rfl (fun h61 => ?_) (fun h61 => ?_)
     ·skip
      refine l_g (j := 13) rfl rfl (by decide) (p_move rfl).q ?_
      first | refine l_g (j := 13) rfl rfl (by decide) (p_neq rfl rfl rfl rfl).q ?_ | refine l_g (j := 13) rfl rfl (by decide) (p_neqi rfl rfl).q ?_
      refine l_g (j := 8) rfl rfl (by decide) (p_pick rfl rfl).q ?_
      refine l_g (j := 8) rfl rfl (by decide) (p_move rfl).q ?_
      first | refine l_splitd (t := 65) rfl (fun h65 => ?_) (fun h65 => ?_) | refine l_splitb (t := 65) rfl (fun h65 => ?_) (fun h65 => ?_)
      ·skip
       refine l_g (j := 17) rfl rfl (by decide) (p_move rfl).q ?_
       first | refine l_g (j := 17) rfl rfl (by decide) (p_lss (j := 1) rfl rfl rfl rfl).q ?_ | refine l_g (j := 17) rfl rfl (by decide) (p_lssi rfl rfl).q ?_
       refine l_g (j := 17) rfl rfl (by decide) (p_move rfl).q ?_
       first | refine l_splitd (t := 68) rfl (fun h68 => ?_) (fun h68 => ?_) | refine l_splitb (t := 68) rfl (fun h68 => ?_) (fun h68 => ?_)
       ·skip
        refine l_off (j := 20) rfl rfl (by first | (simp; done) | (simp [undef]; done)) (by decide) ?_
        refine l_off (j := 20) rfl rfl (by first | (simp; done) | (simp [undef]; done)) (by decide) ?_
        refine l_g (j := 17) rfl rfl (by decide) (p_pick rfl rfl).q ?_
        refine l_g (j := 8) rfl rfl (by decide) (p_pick rfl rfl).q ?_
        refine l_q (by decide) (p_pick rfl rfl).q ?_
        refine l_nil ?_
        refine c_join (()) ?inv ?sub ?perm ?facts
        case sub => exact ⟨rfl, rfl, rfl, (by first | rfl | exact congrArg (fun b => some (Value.bool b)) (decide_eq_true (by omega)).symm | exact congrArg (fun b => some (Value.bool b)) (decide_eq_false (by omega)).symm | exact congrArg (fun b => some (Value.bool b)) (decide_eq_decide.2 (by omega))), trivial⟩
        case perm =>
         exact .refl _
        case facts => exact fun _ h => h
        case inv =>
         trivial
       ·skip
        refine l_g (j := 20) rfl rfl (by decide) (p_move rfl).q ?_
        first | refine l_g (j := 20) rfl rfl (by decide) (p_gtr (j := 60000) rfl rfl rfl rfl).q ?_ | refine l_g (j := 20) rfl rfl (by decide) (p_gtri rfl rfl).q ?_
        refine l_g (j := 17) rfl rfl (by decide) (p_pick rfl rfl).q ?_
        refine l_g (j := 8) rfl rfl (by decide) (p_pick rfl rfl).q ?_
        refine l_q (by decide) (p_pick rfl rfl).q ?_
        refine l_nil ?_
        refine c_join (()) ?inv ?sub ?perm ?facts
        case sub => exact ⟨rfl, rfl, rfl, (by first | rfl | exact congrArg (fun b => some (Value.bool b)) (decide_eq_true (by omega)).symm | exact congrArg (fun b => some (Value.bool b)) (decide_eq_false (by omega)).symm | exact congrArg (fun b => some (Value.bool b)) (decide_eq_decide.2 (by omega))), trivial⟩
        case perm =>
         exact .refl _
        case facts => exact fun _ h => h
        case inv =>
         trivial
      ·skip
       refine l_off (j := 17) rfl rfl (by first | (simp; done) | (simp [undef]; done)) (by decide) ?_
       refine l_off (j := 17) rfl rfl (by first | (simp; done) | (simp [undef]; done)) (by decide) ?_
       refine l_off (j := 17) rfl rfl (by first | (simp; done) | (simp [undef]; done)) (by decide) ?_
       refine l_off (j := 20) rfl rfl (by first | (simp; done) | (simp [undef]; done)) (by decide) ?_
       refine l_off (j := 20) rfl rfl (by first | (simp; done) | (simp [undef]; done)) (by decide) ?_
       refine l_off (j := 17) rfl rfl (by first | (simp; done) | (simp [undef]; done)) (by decide) ?_
       refine l_g (j := 8) rfl rfl (by decide) (p_pick rfl rfl).q ?_
       refine l_q (by decide) (p_pick rfl rfl).q ?_
       refine l_nil ?_
       refine c_join (()) ?inv ?sub ?perm ?facts
       case sub => exact ⟨rfl, rfl, rfl, (by first | rfl | exact congrArg (fun b => some (Value.bool b)) (decide_eq_true (by omega)).symm | exact congrArg (fun b => some (Value.bool b)) (decide_eq_false (by omega)).symm | exact congrArg (fun b => some (Value.bool b)) (decide_eq_decide.2 (by omega))), trivial⟩
       case perm =>
        exact .refl _
       case facts => exact fun _ h => h
       case inv =>
        trivial
     ·skip
      refine l_off (j := 13) rfl rfl (by first | (simp; done) | (simp [undef]; done)) (by decide) ?_
      refine l_off (j := 13) rfl rfl (by first | (simp; done) | (simp [undef]; done)) (by decide) ?_
      refine l_g (j := 8) rfl rfl (by decide) (p_pick rfl rfl).q ?_
      refine l_g (j := 8) rfl rfl (by decide) (p_move rfl).q ?_
      refine l_off (j := 17) rfl rfl (by first | (simp; done) | (simp [undef]; done)) (by decide) ?_
      refine l_off (j := 17) rfl rfl (by first | (simp; done) | (simp [undef]; done)) (by decide) ?_
      refine l_off (j := 17) rfl rfl (by first | (simp; done) | (simp [undef]; done)) (by decide) ?_
      refine l_off (j := 20) rfl rfl (by first | (simp; done) | (simp [undef]; done)) (by decide) ?_
      refine l_off (j := 20) rfl rfl (by first | (simp; done) | (simp [undef]; done)) (by decide) ?_
      refine l_off (j := 17) rfl rfl (by first | (simp; done) | (simp [undef]; done)) (by decide) ?_
      refine l_g (j := 8) rfl rfl (by decide) (p_pick rfl rfl).q ?_
      refine l_q (by decide) (p_pick rfl rfl).q ?_
      refine l_nil ?_
      refine c_join (()) ?inv ?sub ?perm ?facts
      case sub => exact ⟨rfl, rfl, rfl, (by first | rfl | exact congrArg (fun b => some (Value.bool b)) (decide_eq_true (by omega)).symm | exact congrArg (fun b => some (Value.bool b)) (decide_eq_false (by omega)).symm | exact congrArg (fun b => some (Value.bool b)) (decide_eq_decide.2 (by omega))), trivial⟩
      case perm =>
       exact .refl _
      case facts => exact fun _ h => h
      case inv =>
       trivial
   rintro uu hmeet
   show Cont _ _ _ _ [(1, .int .i64 (n : Int)), (2, .pointer (some ⟨b2, 0, none⟩)), (5, .int .i64 (k : Int)), (73, .bool (decide (((k : Int) = x.o.kind ∧ u ≠ 0) ∨ ((k : Int) ≠ x.o.kind ∧ u ≠ -1 ∧ (u < 1 ∨ u > 60000)))))] ([iCells b2 44 [.int .i64 x.o.kind, .slice x.A x.o.read.length x.c, .int .i64 x.o.del]]) [Sl 1 intF x.A x.o.read]
   first | refine c_dec rfl (fun h73 => ?_) (fun h73 => ?_) | refine c_cond rfl (fun h73 => ?_) (fun h73 => ?_)
   ·skip
    refine c_seq ?_
    refine c_reg ?_
    refine l_q (by decide) (p_assign rfl).q ?_
    refine l_nil ?_
    refine c_ret ?_
    refine c_ret1 rfl rfl (fun w hs => ?_)
    exact ⟨by rw [dec_false (fun h => by have := okc_row h (by omega) hu; split at this <;> omega)], hs.ext⟩
   ·skip
    refine c_skip ?_
    refine c_reg ?_
    refine l_q (by decide) (p_move rfl).q ?_
    first | refine l_q (by decide) (p_add (j := 1) rfl rfl rfl rfl (by show _ ≤ (9223372036854775807 : Nat); omega)).q ?_ | refine l_q (by decide) (p_addi rfl rfl (by show (-9223372036854775808 : Int) ≤ _; omega) (by show _ ≤ ((9223372036854775807 : Nat) : Int); omega)).q ?_
    refine l_q (by decide) (p_assign rfl).q ?_
    refine l_nil ?_
    refine c_join ((k + 1)) ?_ ?_ ?_ ?_
    ·show ((k + 1) ≤ n ∧ ∀ t : Nat, t < (k + 1) → ∃ u, x.o.read[t]? = some u ∧ (if (t : Int) = x.o.kind then u = 0 else (u = -1 ∨ (1 ≤ u ∧ u ≤ 60000)))) ∧ n - (k + 1) < n - k
     refine ⟨⟨by omega, fun t ht => ?_⟩, by omega⟩
     by_cases htk : t = k
     · subst htk; exact ⟨u, hu, by split <;> omega⟩
     · exact he t (by omega)
    · exact ⟨rfl, rfl, rfl, trivial⟩
    ·show List.Perm _ ([iCells b2 44 [.int .i64 x.o.kind, .slice x.A x.o.read.length x.c, .int .i64 x.o.del]])
     exact .refl _
    · exact fun _ h => h
  ·skip
   refine c_exit ?_
   refine c_here ?_
   refine c_seq ?_
   refine c_reg ?_
   refine l_q (by decide) (p_assign rfl).q ?_
   refine l_nil ?_
   refine c_ret ?_
   refine c_ret1 rfl rfl (fun w hs => ?_)
   exact ⟨by rw [dec_true ⟨by omega, by omega, by omega, by omega, by unfold Ed.inf; omega, fun t ht => he t (by omega)⟩], hs.ext⟩

theorem columns_ok (A : Option Addr) (c : Nat) (xs : List XCol) (n : Nat) (hn : n ≤ 140737488355328) (hl : xs.length ≤ 140737488355328) (w : World) (hq : Sl 3 colF A xs w) (hr : Rd xs w) :
   Calls Tryd.prog 38 #[.slice A xs.length c, .int .i64 (n : Int)] w (Ret fun v w' => v = .bool (dec (∀ x, x ∈ xs → Ed.Okc n x.o)) ∧ Ext [] w w') := by
 refine calls_fx (l := [.slice A xs.length c, .int .i64 (n : Int)]) Tryd.func38 rfl Tryd.ntmps38 (Nat.le_of_ble_eq_true rfl) (Holds.two hr (dep_rd hr) hq (dep_sl (by decide) hq)) ?_
 refine c_seq ?_
 refine c_reg ?_
 refine l_q (by decide) (p_assign rfl).q ?_
 refine l_nil ?_
 refine c_seq ?_
 refine c_seq ?_
 refine c_reg ?_
 refine l_q (by decide) (p_assign (v := .int .i64 ((0 : Nat) : Int)) rfl).q ?_
 refine l_nil ?_
 refine c_block ?_
 refine c_loop (S := Nat) (fun zs => zs ≤ xs.length ∧ ∀ x, x ∈ xs.take zs → Ed.Okc n x.o) (fun zs => xs.length - zs) (fun zs => [(0, .slice A xs.length c), (1, .int .i64 (n : Int)), (5, .int .i64 (zs : Int))]) (fun zs => []) (fun zs => [Rd xs, Sl 3 colF A xs]) (0) ?_ ?_ ?_ ?_ ?_
 · show (0) ≤ xs.length ∧ ∀ x, x ∈ xs.take (0) → Ed.Okc n x.o
   exact ⟨Nat.zero_le _, fun t h => absurd h (by simp)⟩
 · exact ⟨rfl, rfl, rfl, trivial⟩
 · exact .refl _
 · simp
 rintro k hinv
 have hinv : k ≤ xs.length ∧ ∀ x, x ∈ xs.take k → Ed.Okc n x.o := hinv
 obtain ⟨hk, he⟩ := hinv
 show Cont _ _ _ _ [(0, .slice A xs.length c), (1, .int .i64 (n : Int)), (5, .int .i64 (k : Int))] ([]) [Rd xs, Sl 3 colF A xs]
 refine c_seq ?_
 refine c_seq ?_
 refine c_reg ?_
 refine l_q (by decide) (p_move rfl).q ?_
 refine l_q (by decide) (p_move rfl).q ?_
 refine l_q (by decide) (p_len_sl Tryd.underlying22 rfl).q ?_
 first | refine l_q (by decide) (p_lss rfl rfl rfl rfl).q ?_ | refine l_q (by decide) (p_lssi rfl rfl).q ?_
 refine l_nil ?_
 first | refine c_dec rfl (fun h9 => ?_) (fun h9 => ?_) | refine c_cond rfl (fun h9 => ?_) (fun h9 => ?_)
 ·skip
  obtain ⟨u, hu⟩ := at_some (l := xs) (n := k) (by omega)
  refine c_skip ?_
  refine c_seq ?_
  refine c_block ?_
  refine c_seq ?_
  refine c_reg ?_
  refine l_q (by decide) (p_move rfl).q ?_
  refine l_q (by decide) (p_move rfl).q ?_
  first | refine l_q (by decide) (r_index Tryd.underlying22 inf_44 rfl rfl rfl (by first | exact .fact (by repeat constructor) | exact .own (by repeat constructor) (by decide) (fun _ => rfl) | exact SlIn.reads (by repeat constructor) (by assumption)) rfl (by omega)).q ?_ | refine l_q (by decide) (r_index Tryd.underlying22 inf_44 rfl rfl rfl (by first | exact .fact (by repeat constructor) | exact .own (by repeat constructor) (by decide) (fun _ => rfl) | exact SlIn.reads (by repeat constructor) (by assumption)) rfl (by decide)).q ?_ | refine l_q (by decide) (p_indexo Tryd.underlying22 inf_44 rfl rfl rfl (by omega)).q ?_
  first | refine l_q (by decide) (r_loada Tryd.underlying44 rfl inf_44 rfl (by first | exact .fact (by repeat constructor) | exact .own (by repeat constructor) (by decide) (fun _ => rfl) | exact SlIn.reads (by repeat constructor) (by assumption)) (by assumption)).q ?_ | refine l_q (by decide) (r_loadow Tryd.underlying44 rfl inf_44 rfl (by repeat constructor) (by rfl)).q ?_ | refine l_q (by decide) (r_loadoa Tryd.underlying44 rfl inf_44 rfl (by repeat constructor) (by rfl) (fun j u h => h)).q ?_
  refine l_q (by decide) (p_move rfl).q ?_
  refine l_q (by decide) (q_call call_40 rfl (fun w hs => column_ok u n hn w ((hs.facts (Rd xs) (by repeat constructor)).1 k u hu))) ?_
  first | refine l_q (by decide) (p_notd rfl).q ?_ | refine l_q (by decide) (p_not rfl).q ?_
  refine l_nil ?_
  first | refine c_dec rfl (fun h18 => ?_) (fun h18 => ?_) | refine c_cond rfl (fun h18 => ?_) (fun h18 => ?_)
  ·skip
   refine c_seq ?_
   refine c_reg ?_
   refine l_q (by decide) (p_assign rfl).q ?_
   refine l_nil ?_
   refine c_ret ?_
   refine c_ret1 rfl rfl (fun w hs => ?_)
   exact ⟨by rw [dec_false (fun h => by rw [dec_true (h u (List.mem_of_getElem? hu))] at h18; simp at h18)], hs.ext⟩
  ·skip
   refine c_skip ?_
   refine c_reg ?_
   refine l_q (by decide) (p_move rfl).q ?_
   first | refine l_q (by decide) (p_add (j := 1) rfl rfl rfl rfl (by show _ ≤ (9223372036854775807 : Nat); omega)).q ?_ | refine l_q (by decide) (p_addi rfl rfl (by show (-9223372036854775808 : Int) ≤ _; omega) (by show _ ≤ ((9223372036854775807 : Nat) : Int); omega)).q ?_
   refine l_q (by decide) (p_assign rfl).q ?_
   refine l_nil ?_
   refine c_join ((k + 1)) ?_ ?_ ?_ ?_
   ·show ((k + 1) ≤ xs.length ∧ ∀ x, x ∈ xs.take (k + 1) → Ed.Okc n x.o) ∧ xs.length - (k + 1) < xs.length - k
    refine ⟨⟨by omega, fun t ht => ?_⟩, by omega⟩
    rw [take_at hu] at ht
    rcases List.mem_append.1 ht with h | h
    · exact he t h
    · rw [List.mem_singleton.1 h]; exact of_dec (by simpa using h18)
   · exact ⟨rfl, rfl, rfl, trivial⟩
   ·show List.Perm _ ([])
    exact .refl _
   · exact fun _ h => h
 ·skip
  refine c_exit ?_
  refine c_here ?_
  refine c_seq ?_
  refine c_reg ?_
  refine l_q (by decide) (p_assign rfl).q ?_
  refine l_nil ?_
  refine c_ret ?_
  refine c_ret1 rfl rfl (fun w hs => ?_)
  rw [List.take_of_length_le (by omega)] at he
  exact ⟨by rw [dec_true he], hs.ext⟩
end Go.Proofs.YtlefheiohblgdaaDoor
