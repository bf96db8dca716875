/- The walks of edit scripts, thirteenth part; conditions: lengths. -/
import Derived.Test.YtlefheiohblgdaaDoorWalksL
namespace Go.Proofs.YtlefheiohblgdaaDoor
open Go Go.Fx Go.Proofs
theorem call_56 : Callable Tryd.prog 56 := ⟨_, Tryd.func56, by kernel_rfl, rfl⟩
theorem call_62 : Callable Tryd.prog 62 := ⟨_, Tryd.func62, by kernel_rfl, rfl⟩
theorem read_ok (b : Nat) (X : Inp) (hX : X.small) (hO : Ed.Okin X.pl) (st : Ed.St) (A : Option Addr) (d : Nat) (K : List Nat) (w : World) (hat : st.at_ ≤ X.xs.length) (hc0 : 0 ≤ st.cost) (hc1 : st.cost ≤ 1099511627776) (ho : st.out.length ≤ 900000) (t : Int) (h : Fx.St w K w [iCells b 56 [.slice X.A X.xs.length X.c, .slice X.B X.ins.length X.d, .int .i64 X.sw, .int .i64 (st.at_ : Int), .slice A (st.out).length d, .int .i64 (st.cost)], iSl 3 1 intF A d (st.out)] [Rd X.xs, Sl 1 intF X.B X.ins, Sl 3 colF X.A X.xs]) :
   Calls Tryd.prog 58 #[.pointer (some ⟨b, 0, none⟩), .int .i64 t] w (Ret fun v w' => ∃ (x : Option Addr × Nat) (ρ' : Facts), v = .bool (Ed.exec X.pl st ⟨1, t⟩).isSome ∧ Fx.St w K w' [iCells b 56 [.slice X.A X.xs.length X.c, .slice X.B X.ins.length X.d, .int .i64 X.sw, .int .i64 (((Ed.exec X.pl st ⟨1, t⟩).getD st).at_ : Int), .slice x.1 (((Ed.exec X.pl st ⟨1, t⟩).getD st).out).length x.2, .int .i64 (((Ed.exec X.pl st ⟨1, t⟩).getD st).cost)], iSl 3 1 intF x.1 x.2 (((Ed.exec X.pl st ⟨1, t⟩).getD st).out)] ρ') := by
 have _ := ho
 have _ := hat
 refine calls_fx (l := [.pointer (some ⟨b, 0, none⟩), .int .i64 t]) Tryd.func58 rfl Tryd.ntmps58 (Nat.le_of_ble_eq_true rfl) h ?_
 refine c_seq ?_
 have hlen : st.at_ < X.xs.length → (colAt X st.at_).o.read.length = X.ins.length := fun h => (okin_cols hO _ (List.mem_of_getElem? (colAt_lt h))).len
 have hxl := hX.xs
 have hil := hX.ins
 obtain ⟨r, hrd⟩ : ∃ r, r = ((colAt X st.at_).o.read[t.toNat]?).getD 0 := ⟨_, rfl⟩
 have hr0 : 0 ≤ t → t < (colAt X st.at_).o.read.length → (colAt X st.at_).o.read[t.toNat]? = some r := fun h1 h2 => by
   obtain ⟨z, hz⟩ := at_some (l := (colAt X st.at_).o.read) (n := t.toNat) (by omega)
   rw [hrd, hz]; rfl
 refine c_reg ?_
 refine l_q (by decide) (p_assign rfl).q ?_
 refine l_nil ?_
 refine c_seq ?_
 refine c_reg ?_
 refine l_q (by decide) (p_move rfl).q ?_
 refine l_callo (X := Unit) (τ := [iCells b 56 [.slice X.A X.xs.length X.c, .slice X.B X.ins.length X.d, .int .i64 X.sw, .int .i64 (st.at_ : Int), .slice A (st.out).length d, .int .i64 (st.cost)], iSl 3 1 intF A d (st.out)]) (σ := []) (fun _ => .tuple #[.agg (colF (colAt X st.at_)).toArray, .bool (decide (st.at_ < X.xs.length))]) (fun _ => [iCells b 56 [.slice X.A X.xs.length X.c, .slice X.B X.ins.length X.d, .int .i64 X.sw, .int .i64 (st.at_ : Int), .slice A (st.out).length d, .int .i64 (st.cost)], iSl 3 1 intF A d (st.out)]) (by decide) call_62 rfl (fun w hs => next_ok b X hX hO st A d _ w hs) (fun _ => ?_)
 refine l_q (by decide) (p_move rfl).q ?_
 refine l_q (by decide) (p_extract rfl rfl).q ?_
 refine l_q (by decide) (p_extract rfl rfl).q ?_
 refine l_alloc (by decide) inf_44 _ rfl (fun b5 => ?_)
 first | (refine l_storew inf_44 rfl rfl rfl rfl rfl ?_) | (refine l_perm (front1 _ _ _) ?_; refine l_storew inf_44 rfl rfl rfl rfl rfl ?_) | (refine l_perm (front2 _ _ _ _) ?_; refine l_storew inf_44 rfl rfl rfl rfl rfl ?_) | (refine l_perm (front3 _ _ _ _ _) ?_; refine l_storew inf_44 rfl rfl rfl rfl rfl ?_) | (refine l_perm (front4 _ _ _ _ _ _) ?_; refine l_storew inf_44 rfl rfl rfl rfl rfl ?_) | (refine l_storea inf_44 rfl rfl rfl rfl (by decide) ?_) | (refine l_perm (front1 _ _ _) ?_; refine l_storea inf_44 rfl rfl rfl rfl (by decide) ?_) | (refine l_perm (front2 _ _ _ _) ?_; refine l_storea inf_44 rfl rfl rfl rfl (by decide) ?_)
 refine l_q (by decide) (p_assign rfl).q ?_
 refine l_nil ?_
 refine c_seq ?_
 refine c_seq ?_
 refine c_meetn (S := Unit) (fun zs => True) (fun zs => [(0, .pointer (some ⟨b, 0, none⟩)), (1, .int .i64 t), (5, .pointer (some ⟨b5, 0, none⟩)), (32, .bool (decide (¬ (st.at_ < X.xs.length ∧ 0 ≤ t ∧ t < (colAt X st.at_).o.read.length ∧ 0 ≤ r))))]) (fun zs => [iCells b5 44 (colF (colAt X st.at_)), iCells b 56 [.slice X.A X.xs.length X.c, .slice X.B X.ins.length X.d, .int .i64 X.sw, .int .i64 (st.at_ : Int), .slice A (st.out).length d, .int .i64 (st.cost)], iSl 3 1 intF A d (st.out)]) (fun zs => [Rd X.xs, Sl 1 intF X.B X.ins, Sl 3 colF X.A X.xs]) ?_ ?_
 ·skip
  refine c_reg ?_
  refine l_q (by decide) (p_move rfl).q ?_
  first | refine l_q (by decide) (p_notd rfl).q ?_ | refine l_q (by decide) (p_not rfl).q ?_
  refine l_q (by decide) (p_move rfl).q ?_
  first | refine l_splitd (t := 14) rfl (fun h14 => ?_) (fun h14 => ?_) | refine l_splitb (t := 14) rfl (fun h14 => ?_) (fun h14 => ?_)
  ·skip
   refine l_off (j := 2) rfl rfl (by first | (simp; done) | (simp [undef]; done)) (by decide) ?_
   refine l_off (j := 2) rfl rfl (by first | (simp; done) | (simp [undef]; done)) (by decide) ?_
   refine l_q (by decide) (p_pick rfl rfl).q ?_
   refine l_q (by decide) (p_move rfl).q ?_
   refine l_off (j := 6) rfl rfl (by first | (simp; done) | (simp [undef]; done)) (by decide) ?_
   refine l_off (j := 6) rfl rfl (by first | (simp; done) | (simp [undef]; done)) (by decide) ?_
   refine l_off (j := 6) rfl rfl (by first | (simp; done) | (simp [undef]; done)) (by decide) ?_
   refine l_off (j := 6) rfl rfl (by first | (simp; done) | (simp [undef]; done)) (by decide) ?_
   refine l_off (j := 6) rfl rfl (by first | (simp; done) | (simp [undef]; done)) (by decide) ?_
   refine l_q (by decide) (p_pick rfl rfl).q ?_
   refine l_q (by decide) (p_move rfl).q ?_
   refine l_off (j := 13) rfl rfl (by first | (simp; done) | (simp [undef]; done)) (by decide) ?_
   refine l_off (j := 13) rfl rfl (by first | (simp; done) | (simp [undef]; done)) (by decide) ?_
   refine l_off (j := 13) rfl rfl (by first | (simp; done) | (simp [undef]; done)) (by decide) ?_
   refine l_off (j := 13) rfl rfl (by first | (simp; done) | (simp [undef]; done)) (by decide) ?_
   refine l_off (j := 13) rfl rfl (by first | (simp; done) | (simp [undef]; done)) (by decide) ?_
   refine l_off (j := 13) rfl rfl (by first | (simp; done) | (simp [undef]; done)) (by decide) ?_
   refine l_q (by decide) (p_pick rfl rfl).q ?_
   refine l_nil ?_
   refine c_join (()) ?inv ?sub ?perm ?facts
   case sub => exact ⟨rfl, rfl, rfl, (by first | rfl | exact congrArg (fun b => some (Value.bool b)) (decide_eq_true (by omega)).symm | exact congrArg (fun b => some (Value.bool b)) (decide_eq_false (by omega)).symm | exact congrArg (fun b => some (Value.bool b)) (decide_eq_decide.2 (by omega))), trivial⟩
   case perm =>
    exact .refl _
   case facts => exact fun _ h => h
   case inv =>
    trivial
  ·skip
   refine l_g (j := 2) rfl rfl (by decide) (p_move rfl).q ?_
   first | refine l_g (j := 2) rfl rfl (by decide) (p_lss (j := 0) rfl rfl rfl rfl).q ?_ | refine l_g (j := 2) rfl rfl (by decide) (p_lssi rfl rfl).q ?_
   refine l_q (by decide) (p_pick rfl rfl).q ?_
   refine l_q (by decide) (p_move rfl).q ?_
   first | refine l_splitd (t := 18) rfl (fun h18 => ?_) (fun h18 => ?_) | refine l_splitb (t := 18) rfl (fun h18 => ?_) (fun h18 => ?_)
   ·skip
    refine l_off (j := 6) rfl rfl (by first | (simp; done) | (simp [undef]; done)) (by decide) ?_
    refine l_off (j := 6) rfl rfl (by first | (simp; done) | (simp [undef]; done)) (by decide) ?_
    refine l_off (j := 6) rfl rfl (by first | (simp; done) | (simp [undef]; done)) (by decide) ?_
    refine l_off (j := 6) rfl rfl (by first | (simp; done) | (simp [undef]; done)) (by decide) ?_
    refine l_off (j := 6) rfl rfl (by first | (simp; done) | (simp [undef]; done)) (by decide) ?_
    refine l_q (by decide) (p_pick rfl rfl).q ?_
    refine l_q (by decide) (p_move rfl).q ?_
    refine l_off (j := 13) rfl rfl (by first | (simp; done) | (simp [undef]; done)) (by decide) ?_
    refine l_off (j := 13) rfl rfl (by first | (simp; done) | (simp [undef]; done)) (by decide) ?_
    refine l_off (j := 13) rfl rfl (by first | (simp; done) | (simp [undef]; done)) (by decide) ?_
    refine l_off (j := 13) rfl rfl (by first | (simp; done) | (simp [undef]; done)) (by decide) ?_
    refine l_off (j := 13) rfl rfl (by first | (simp; done) | (simp [undef]; done)) (by decide) ?_
    refine l_off (j := 13) rfl rfl (by first | (simp; done) | (simp [undef]; done)) (by decide) ?_
    refine l_q (by decide) (p_pick rfl rfl).q ?_
    refine l_nil ?_
    refine c_join (()) ?inv ?sub ?perm ?facts
    case sub => exact ⟨rfl, rfl, rfl, (by first | rfl | exact congrArg (fun b => some (Value.bool b)) (decide_eq_true (by omega)).symm | exact congrArg (fun b => some (Value.bool b)) (decide_eq_false (by omega)).symm | exact congrArg (fun b => some (Value.bool b)) (decide_eq_decide.2 (by omega))), trivial⟩
    case perm =>
     exact .refl _
    case facts => exact fun _ h => h
    case inv =>
     trivial
   ·skip
    refine l_g (j := 6) rfl rfl (by decide) (p_move rfl).q ?_
    first | refine l_g (j := 6) rfl rfl (by decide) (p_faddr (i := 1) 1 Tryd.underlying44 rfl inf_23 (by decide) rfl rfl).q ?_ | refine l_g (j := 6) rfl rfl (by decide) (p_faddro (i := 1) 1 Tryd.underlying44 rfl inf_23 (by decide) rfl rfl).q ?_
    first | refine l_g (j := 6) rfl rfl (by decide) (r_loado Tryd.underlying23 rfl rfl (by repeat constructor) (by rfl)).q ?_ | refine l_g (j := 6) rfl rfl (by decide) (r_load1 Tryd.underlying23 rfl rfl (by first | exact .fact (by repeat constructor) | exact .own (by repeat constructor) (by decide) (fun _ => rfl) | exact SlIn.reads (by repeat constructor) (by assumption)) (by first | assumption | rfl) (by rfl)).q ?_ | refine l_g (j := 6) rfl rfl (by decide) (r_loadf Tryd.underlying23 rfl rfl (by first | exact .fact (by repeat constructor) | exact .own (by repeat constructor) (by decide) (fun _ => rfl) | exact SlIn.reads (by repeat constructor) (by assumption)) (by assumption) (by rfl)).q ?_
    refine l_g (j := 6) rfl rfl (by decide) (p_len_sl Tryd.underlying23 rfl).q ?_
    first | refine l_g (j := 6) rfl rfl (by decide) (p_geq rfl rfl rfl rfl).q ?_ | refine l_g (j := 6) rfl rfl (by decide) (p_geqi rfl rfl).q ?_
    refine l_q (by decide) (p_pick rfl rfl).q ?_
    refine l_q (by decide) (p_move rfl).q ?_
    first | refine l_splitd (t := 25) rfl (fun h25 => ?_) (fun h25 => ?_) | refine l_splitb (t := 25) rfl (fun h25 => ?_) (fun h25 => ?_)
    ·skip
     refine l_off (j := 13) rfl rfl (by first | (simp; done) | (simp [undef]; done)) (by decide) ?_
     refine l_off (j := 13) rfl rfl (by first | (simp; done) | (simp [undef]; done)) (by decide) ?_
     refine l_off (j := 13) rfl rfl (by first | (simp; done) | (simp [undef]; done)) (by decide) ?_
     refine l_off (j := 13) rfl rfl (by first | (simp; done) | (simp [undef]; done)) (by decide) ?_
     refine l_off (j := 13) rfl rfl (by first | (simp; done) | (simp [undef]; done)) (by decide) ?_
     refine l_off (j := 13) rfl rfl (by first | (simp; done) | (simp [undef]; done)) (by decide) ?_
     refine l_q (by decide) (p_pick rfl rfl).q ?_
     refine l_nil ?_
     refine c_join (()) ?inv ?sub ?perm ?facts
     case sub => exact ⟨rfl, rfl, rfl, (by first | rfl | exact congrArg (fun b => some (Value.bool b)) (decide_eq_true (by omega)).symm | exact congrArg (fun b => some (Value.bool b)) (decide_eq_false (by omega)).symm | exact congrArg (fun b => some (Value.bool b)) (decide_eq_decide.2 (by omega))), trivial⟩
     case perm =>
      exact .refl _
     case facts => exact fun _ h => h
     case inv =>
      trivial
    ·skip
     have hcx := colAt_lt (X := X) (i := st.at_) (by omega)
     have hr := hr0 (by omega) (by omega)
     have hrl := at_lt hr
     first | refine l_g (j := 13) rfl rfl (by decide) (p_faddr (i := 1) 1 Tryd.underlying44 rfl inf_23 (by decide) rfl rfl).q ?_ | refine l_g (j := 13) rfl rfl (by decide) (p_faddro (i := 1) 1 Tryd.underlying44 rfl inf_23 (by decide) rfl rfl).q ?_
     first | refine l_g (j := 13) rfl rfl (by decide) (r_loado Tryd.underlying23 rfl rfl (by repeat constructor) (by rfl)).q ?_ | refine l_g (j := 13) rfl rfl (by decide) (r_load1 Tryd.underlying23 rfl rfl (by first | exact .fact (by repeat constructor) | exact .own (by repeat constructor) (by decide) (fun _ => rfl) | exact SlIn.reads (by repeat constructor) (by assumption)) (by first | assumption | rfl) (by rfl)).q ?_ | refine l_g (j := 13) rfl rfl (by decide) (r_loadf Tryd.underlying23 rfl rfl (by first | exact .fact (by repeat constructor) | exact .own (by repeat constructor) (by decide) (fun _ => rfl) | exact SlIn.reads (by repeat constructor) (by assumption)) (by assumption) (by rfl)).q ?_
     refine l_g (j := 13) rfl rfl (by decide) (((p_move rfl)).to (u := .int .i64 (t.toNat : Int)) (by rw [Int.toNat_of_nonneg (by omega)])).q ?_
     first | refine l_g (j := 13) rfl rfl (by decide) (r_index Tryd.underlying23 inf_3 rfl rfl rfl (by first | exact .fact (by repeat constructor) | exact .own (by repeat constructor) (by decide) (fun _ => rfl) | exact SlIn.reads (by repeat constructor) (by assumption)) rfl (by omega)).q ?_ | refine l_g (j := 13) rfl rfl (by decide) (r_index Tryd.underlying23 inf_3 rfl rfl rfl (by first | exact .fact (by repeat constructor) | exact .own (by repeat constructor) (by decide) (fun _ => rfl) | exact SlIn.reads (by repeat constructor) (by assumption)) rfl (by decide)).q ?_ | refine l_g (j := 13) rfl rfl (by decide) (p_indexo Tryd.underlying23 inf_3 rfl rfl rfl (by omega)).q ?_
     first | refine l_g (j := 13) rfl rfl (by decide) (r_loado Tryd.underlying3 rfl rfl (by repeat constructor) (by rfl)).q ?_ | refine l_g (j := 13) rfl rfl (by decide) (r_load1 Tryd.underlying3 rfl rfl (by first | exact .fact (by repeat constructor) | exact .own (by repeat constructor) (by decide) (fun _ => rfl) | exact SlIn.reads (by repeat constructor) (by assumption)) (by first | assumption | rfl) (by rfl)).q ?_ | refine l_g (j := 13) rfl rfl (by decide) (r_loadf Tryd.underlying3 rfl rfl (by first | exact .fact (by repeat constructor) | exact .own (by repeat constructor) (by decide) (fun _ => rfl) | exact SlIn.reads (by repeat constructor) (by assumption)) (by assumption) (by rfl)).q ?_
     first | refine l_g (j := 13) rfl rfl (by decide) (p_lss (j := 0) rfl rfl rfl rfl).q ?_ | refine l_g (j := 13) rfl rfl (by decide) (p_lssi rfl rfl).q ?_
     refine l_q (by decide) (p_pick rfl rfl).q ?_
     refine l_nil ?_
     refine c_join (()) ?inv ?sub ?perm ?facts
     case sub => exact ⟨rfl, rfl, rfl, (by first | rfl | exact congrArg (fun b => some (Value.bool b)) (decide_eq_true (by omega)).symm | exact congrArg (fun b => some (Value.bool b)) (decide_eq_false (by omega)).symm | exact congrArg (fun b => some (Value.bool b)) (decide_eq_decide.2 (by omega))), trivial⟩
     case perm =>
      exact .refl _
     case facts => exact fun _ h => h
     case inv =>
      trivial
 rintro uu hmeet
 show Cont _ _ _ _ [(0, .pointer (some ⟨b, 0, none⟩)), (1, .int .i64 t), (5, .pointer (some ⟨b5, 0, none⟩)), (32, .bool (decide (¬ (st.at_ < X.xs.length ∧ 0 ≤ t ∧ t < (colAt X st.at_).o.read.length ∧ 0 ≤ r))))] ([iCells b5 44 (colF (colAt X st.at_)), iCells b 56 [.slice X.A X.xs.length X.c, .slice X.B X.ins.length X.d, .int .i64 X.sw, .int .i64 (st.at_ : Int), .slice A (st.out).length d, .int .i64 (st.cost)], iSl 3 1 intF A d (st.out)]) [Rd X.xs, Sl 1 intF X.B X.ins, Sl 3 colF X.A X.xs]
 first | refine c_dec rfl (fun h32 => ?_) (fun h32 => ?_) | refine c_cond rfl (fun h32 => ?_) (fun h32 => ?_)
 ·skip
  refine c_seq ?_
  refine c_reg ?_
  refine l_q (by decide) (p_assign rfl).q ?_
  refine l_nil ?_
  refine c_ret ?_
  refine c_ret1 rfl rfl (fun w hs => ?_)
  have hex := exec_none1 (t := t) hlen (by rw [← hrd]; exact h32)
  exact ⟨(A, d), _, by rw [hex]; rfl, by rw [hex]; exact hs.drop⟩
 ·skip
  have hin : st.at_ < X.xs.length ∧ 0 ≤ t ∧ t < (colAt X st.at_).o.read.length ∧ 0 ≤ r := Classical.not_not.1 h32
  have hr := hr0 (by omega) (by omega)
  have hrl := at_lt hr
  have hcx := colAt_lt hin.1
  have hrow := okc_row (okin_cols hO _ (List.mem_of_getElem? hcx)) (show t.toNat < X.ins.length by have := hlen hin.1; omega) hr
  have hr6 : r ≤ 60000 := by split at hrow <;> omega
  refine c_skip ?_
  refine c_seq ?_
  refine c_reg ?_
  refine l_q (by decide) (p_move rfl).q ?_
  refine l_q (by decide) (p_nilp rfl).q ?_
  first | refine l_q (by decide) (p_faddr (i := 1) 3 Tryd.underlying56 rfl inf_3 (by decide) rfl rfl).q ?_ | refine l_q (by decide) (p_faddro (i := 1) 3 Tryd.underlying56 rfl inf_3 (by decide) rfl rfl).q ?_
  first | refine l_q (by decide) (r_loado Tryd.underlying3 rfl rfl (by repeat constructor) (by rfl)).q ?_ | refine l_q (by decide) (r_load1 Tryd.underlying3 rfl rfl (by first | exact .fact (by repeat constructor) | exact .own (by repeat constructor) (by decide) (fun _ => rfl) | exact SlIn.reads (by repeat constructor) (by assumption)) (by first | assumption | rfl) (by rfl)).q ?_ | refine l_q (by decide) (r_loadf Tryd.underlying3 rfl rfl (by first | exact .fact (by repeat constructor) | exact .own (by repeat constructor) (by decide) (fun _ => rfl) | exact SlIn.reads (by repeat constructor) (by assumption)) (by assumption) (by rfl)).q ?_
  first | refine l_q (by decide) (p_add (j := 1) rfl rfl rfl rfl (by show _ ≤ (9223372036854775807 : Nat); omega)).q ?_ | refine l_q (by decide) (p_addi rfl rfl (by show (-9223372036854775808 : Int) ≤ _; omega) (by show _ ≤ ((9223372036854775807 : Nat) : Int); omega)).q ?_
  refine l_q (by decide) (p_nilp rfl).q ?_
  first | refine l_q (by decide) (p_faddr (i := 1) 3 Tryd.underlying56 rfl inf_3 (by decide) rfl rfl).q ?_ | refine l_q (by decide) (p_faddro (i := 1) 3 Tryd.underlying56 rfl inf_3 (by decide) rfl rfl).q ?_
  first | (refine l_store inf_3 rfl rfl rfl rfl (by first | decide | exact Nat.le_of_ble_eq_true rfl | (simp; done) | omega | (simp only [Nat.mul_one]; assumption)) ?_) | (refine l_perm (front1 _ _ _) ?_; refine l_store inf_3 rfl rfl rfl rfl (by first | decide | exact Nat.le_of_ble_eq_true rfl | (simp; done) | omega | (simp only [Nat.mul_one]; assumption)) ?_) | (refine l_perm (front2 _ _ _ _) ?_; refine l_store inf_3 rfl rfl rfl rfl (by first | decide | exact Nat.le_of_ble_eq_true rfl | (simp; done) | omega | (simp only [Nat.mul_one]; assumption)) ?_) | (refine l_perm (front3 _ _ _ _ _) ?_; refine l_store inf_3 rfl rfl rfl rfl (by first | decide | exact Nat.le_of_ble_eq_true rfl | (simp; done) | omega | (simp only [Nat.mul_one]; assumption)) ?_) | (refine l_perm (front4 _ _ _ _ _ _) ?_; refine l_store inf_3 rfl rfl rfl rfl (by first | decide | exact Nat.le_of_ble_eq_true rfl | (simp; done) | omega | (simp only [Nat.mul_one]; assumption)) ?_)
  refine l_nil ?_
  refine c_seq ?_
  refine c_reg ?_
  refine l_q (by decide) (p_move rfl).q ?_
  refine l_q (by decide) (p_move rfl).q ?_
  refine l_perm (.cons _ (front1 _ _ _)) ?_
  refine l_callo (τ := [iCells b 56 [.slice X.A X.xs.length X.c, .slice X.B X.ins.length X.d, .int .i64 X.sw, .int .i64 (st.at_ + 1 : Int), .slice A (st.out).length d, .int .i64 (st.cost)], iSl 3 1 intF A d (st.out)]) (σ := [iCells b5 44 (colF (colAt X st.at_))]) (fun _ => .tuple #[]) (fun xx : Option Addr × Nat => [iCells b 56 [.slice X.A X.xs.length X.c, .slice X.B X.ins.length X.d, .int .i64 X.sw, .int .i64 (st.at_ + 1 : Int), .slice xx.1 (st.out ++ [t]).length xx.2, .int .i64 (st.cost)], iSl 3 1 intF xx.1 xx.2 (st.out ++ [t])]) (by decide) call_56 rfl (fun w hs => emit_ok b _ _ _ _ _ A d (st.out) t (by first | omega | (simp only [List.length_append, List.length_cons, List.length_nil]; omega)) _ _ w hs) (fun x42 => ?_)
  refine l_nil ?_
  refine c_seq ?_
  refine m_draw [13] mixed ?_
  refine m_takep 0 rfl (by kernel_rfl) (by decide) (p_move rfl) ?_
  refine m_takep 1 rfl (by kernel_rfl) (by decide) (p_move rfl) ?_
  refine m_takep 2 rfl (by kernel_rfl) (by decide) (p_nilp rfl) ?_
  first | refine m_takep 3 rfl (by kernel_rfl) (by decide) (p_faddr (i := 3) 5 Tryd.underlying56 rfl inf_3 (by decide) rfl rfl) ?_ | refine m_takep 3 rfl (by kernel_rfl) (by decide) (p_faddro (i := 3) 5 Tryd.underlying56 rfl inf_3 (by decide) rfl rfl) ?_
  first | refine m_take 4 rfl (by kernel_rfl) (by decide) (by first | exact (List.Perm.refl _ : List.Perm _ ([] ++ _)) | exact (List.Perm.refl _ : List.Perm _ ([_] ++ _)) | exact (List.Perm.refl _ : List.Perm _ ([_, _] ++ _)) | exact (List.Perm.refl _ : List.Perm _ ([_, _, _] ++ _)) | exact (List.Perm.refl _ : List.Perm _ ([_, _, _, _] ++ _)) | exact (List.Perm.refl _ : List.Perm _ ([_, _, _, _, _] ++ _))) (by first | exact fun _ h => h | exact fun _ h => List.mem_cons_of_mem _ h | exact fun _ h => List.mem_cons_of_mem _ (List.mem_cons_of_mem _ h)) (r_loado Tryd.underlying3 rfl rfl (by repeat constructor) (by rfl)).r ?_ | refine m_take 4 rfl (by kernel_rfl) (by decide) (by first | exact (List.Perm.refl _ : List.Perm _ ([] ++ _)) | exact (List.Perm.refl _ : List.Perm _ ([_] ++ _)) | exact (List.Perm.refl _ : List.Perm _ ([_, _] ++ _)) | exact (List.Perm.refl _ : List.Perm _ ([_, _, _] ++ _)) | exact (List.Perm.refl _ : List.Perm _ ([_, _, _, _] ++ _)) | exact (List.Perm.refl _ : List.Perm _ ([_, _, _, _, _] ++ _))) (by first | exact fun _ h => h | exact fun _ h => List.mem_cons_of_mem _ h | exact fun _ h => List.mem_cons_of_mem _ (List.mem_cons_of_mem _ h)) (r_load1 Tryd.underlying3 rfl rfl (by first | exact .fact (by repeat constructor) | exact .own (by repeat constructor) (by decide) (fun _ => rfl) | exact SlIn.reads (by repeat constructor) (by assumption)) (by first | assumption | rfl) (by rfl)).r ?_ | refine m_take 4 rfl (by kernel_rfl) (by decide) (by first | exact (List.Perm.refl _ : List.Perm _ ([] ++ _)) | exact (List.Perm.refl _ : List.Perm _ ([_] ++ _)) | exact (List.Perm.refl _ : List.Perm _ ([_, _] ++ _)) | exact (List.Perm.refl _ : List.Perm _ ([_, _, _] ++ _)) | exact (List.Perm.refl _ : List.Perm _ ([_, _, _, _] ++ _)) | exact (List.Perm.refl _ : List.Perm _ ([_, _, _, _, _] ++ _))) (by first | exact fun _ h => h | exact fun _ h => List.mem_cons_of_mem _ h | exact fun _ h => List.mem_cons_of_mem _ (List.mem_cons_of_mem _ h)) (r_loadf Tryd.underlying3 rfl rfl (by first | exact .fact (by repeat constructor) | exact .own (by repeat constructor) (by decide) (fun _ => rfl) | exact SlIn.reads (by repeat constructor) (by assumption)) (by assumption) (by rfl)).r ?_
  first | refine m_takep 5 rfl (by kernel_rfl) (by decide) (p_faddr (i := 1) 1 Tryd.underlying44 rfl inf_23 (by decide) rfl rfl) ?_ | refine m_takep 5 rfl (by kernel_rfl) (by decide) (p_faddro (i := 1) 1 Tryd.underlying44 rfl inf_23 (by decide) rfl rfl) ?_
  first | refine m_take 6 rfl (by kernel_rfl) (by decide) (by first | exact (List.Perm.refl _ : List.Perm _ ([] ++ _)) | exact (List.Perm.refl _ : List.Perm _ ([_] ++ _)) | exact (List.Perm.refl _ : List.Perm _ ([_, _] ++ _)) | exact (List.Perm.refl _ : List.Perm _ ([_, _, _] ++ _)) | exact (List.Perm.refl _ : List.Perm _ ([_, _, _, _] ++ _)) | exact (List.Perm.refl _ : List.Perm _ ([_, _, _, _, _] ++ _))) (by first | exact fun _ h => h | exact fun _ h => List.mem_cons_of_mem _ h | exact fun _ h => List.mem_cons_of_mem _ (List.mem_cons_of_mem _ h)) (r_loado Tryd.underlying23 rfl rfl (by repeat constructor) (by rfl)).r ?_ | refine m_take 6 rfl (by kernel_rfl) (by decide) (by first | exact (List.Perm.refl _ : List.Perm _ ([] ++ _)) | exact (List.Perm.refl _ : List.Perm _ ([_] ++ _)) | exact (List.Perm.refl _ : List.Perm _ ([_, _] ++ _)) | exact (List.Perm.refl _ : List.Perm _ ([_, _, _] ++ _)) | exact (List.Perm.refl _ : List.Perm _ ([_, _, _, _] ++ _)) | exact (List.Perm.refl _ : List.Perm _ ([_, _, _, _, _] ++ _))) (by first | exact fun _ h => h | exact fun _ h => List.mem_cons_of_mem _ h | exact fun _ h => List.mem_cons_of_mem _ (List.mem_cons_of_mem _ h)) (r_load1 Tryd.underlying23 rfl rfl (by first | exact .fact (by repeat constructor) | exact .own (by repeat constructor) (by decide) (fun _ => rfl) | exact SlIn.reads (by repeat constructor) (by assumption)) (by first | assumption | rfl) (by rfl)).r ?_ | refine m_take 6 rfl (by kernel_rfl) (by decide) (by first | exact (List.Perm.refl _ : List.Perm _ ([] ++ _)) | exact (List.Perm.refl _ : List.Perm _ ([_] ++ _)) | exact (List.Perm.refl _ : List.Perm _ ([_, _] ++ _)) | exact (List.Perm.refl _ : List.Perm _ ([_, _, _] ++ _)) | exact (List.Perm.refl _ : List.Perm _ ([_, _, _, _] ++ _)) | exact (List.Perm.refl _ : List.Perm _ ([_, _, _, _, _] ++ _))) (by first | exact fun _ h => h | exact fun _ h => List.mem_cons_of_mem _ h | exact fun _ h => List.mem_cons_of_mem _ (List.mem_cons_of_mem _ h)) (r_loadf Tryd.underlying23 rfl rfl (by first | exact .fact (by repeat constructor) | exact .own (by repeat constructor) (by decide) (fun _ => rfl) | exact SlIn.reads (by repeat constructor) (by assumption)) (by assumption) (by rfl)).r ?_
  refine m_takep 7 rfl (by kernel_rfl) (by decide) (((p_move rfl)).to (u := .int .i64 (t.toNat : Int)) (by rw [Int.toNat_of_nonneg (by omega)])) ?_
  first | refine m_take 8 rfl (by kernel_rfl) (by decide) (by first | exact (List.Perm.refl _ : List.Perm _ ([] ++ _)) | exact (List.Perm.refl _ : List.Perm _ ([_] ++ _)) | exact (List.Perm.refl _ : List.Perm _ ([_, _] ++ _)) | exact (List.Perm.refl _ : List.Perm _ ([_, _, _] ++ _)) | exact (List.Perm.refl _ : List.Perm _ ([_, _, _, _] ++ _)) | exact (List.Perm.refl _ : List.Perm _ ([_, _, _, _, _] ++ _))) (by first | exact fun _ h => h | exact fun _ h => List.mem_cons_of_mem _ h | exact fun _ h => List.mem_cons_of_mem _ (List.mem_cons_of_mem _ h)) (r_index Tryd.underlying23 inf_3 rfl rfl rfl (by first | exact .fact (by repeat constructor) | exact .own (by repeat constructor) (by decide) (fun _ => rfl) | exact SlIn.reads (by repeat constructor) (by assumption)) rfl (by omega)).r ?_ | refine m_take 8 rfl (by kernel_rfl) (by decide) (by first | exact (List.Perm.refl _ : List.Perm _ ([] ++ _)) | exact (List.Perm.refl _ : List.Perm _ ([_] ++ _)) | exact (List.Perm.refl _ : List.Perm _ ([_, _] ++ _)) | exact (List.Perm.refl _ : List.Perm _ ([_, _, _] ++ _)) | exact (List.Perm.refl _ : List.Perm _ ([_, _, _, _] ++ _)) | exact (List.Perm.refl _ : List.Perm _ ([_, _, _, _, _] ++ _))) (by first | exact fun _ h => h | exact fun _ h => List.mem_cons_of_mem _ h | exact fun _ h => List.mem_cons_of_mem _ (List.mem_cons_of_mem _ h)) (r_index Tryd.underlying23 inf_3 rfl rfl rfl (by first | exact .fact (by repeat constructor) | exact .own (by repeat constructor) (by decide) (fun _ => rfl) | exact SlIn.reads (by repeat constructor) (by assumption)) rfl (by decide)).r ?_ | refine m_takep 8 rfl (by kernel_rfl) (by decide) (p_indexo Tryd.underlying23 inf_3 rfl rfl rfl (by omega)) ?_
  first | refine m_take 9 rfl (by kernel_rfl) (by decide) (by first | exact (List.Perm.refl _ : List.Perm _ ([] ++ _)) | exact (List.Perm.refl _ : List.Perm _ ([_] ++ _)) | exact (List.Perm.refl _ : List.Perm _ ([_, _] ++ _)) | exact (List.Perm.refl _ : List.Perm _ ([_, _, _] ++ _)) | exact (List.Perm.refl _ : List.Perm _ ([_, _, _, _] ++ _)) | exact (List.Perm.refl _ : List.Perm _ ([_, _, _, _, _] ++ _))) (by first | exact fun _ h => h | exact fun _ h => List.mem_cons_of_mem _ h | exact fun _ h => List.mem_cons_of_mem _ (List.mem_cons_of_mem _ h)) (r_loado Tryd.underlying3 rfl rfl (by repeat constructor) (by rfl)).r ?_ | refine m_take 9 rfl (by kernel_rfl) (by decide) (by first | exact (List.Perm.refl _ : List.Perm _ ([] ++ _)) | exact (List.Perm.refl _ : List.Perm _ ([_] ++ _)) | exact (List.Perm.refl _ : List.Perm _ ([_, _] ++ _)) | exact (List.Perm.refl _ : List.Perm _ ([_, _, _] ++ _)) | exact (List.Perm.refl _ : List.Perm _ ([_, _, _, _] ++ _)) | exact (List.Perm.refl _ : List.Perm _ ([_, _, _, _, _] ++ _))) (by first | exact fun _ h => h | exact fun _ h => List.mem_cons_of_mem _ h | exact fun _ h => List.mem_cons_of_mem _ (List.mem_cons_of_mem _ h)) (r_load1 Tryd.underlying3 rfl rfl (by first | exact .fact (by repeat constructor) | exact .own (by repeat constructor) (by decide) (fun _ => rfl) | exact SlIn.reads (by repeat constructor) (by assumption)) (by first | assumption | rfl) (by rfl)).r ?_ | refine m_take 9 rfl (by kernel_rfl) (by decide) (by first | exact (List.Perm.refl _ : List.Perm _ ([] ++ _)) | exact (List.Perm.refl _ : List.Perm _ ([_] ++ _)) | exact (List.Perm.refl _ : List.Perm _ ([_, _] ++ _)) | exact (List.Perm.refl _ : List.Perm _ ([_, _, _] ++ _)) | exact (List.Perm.refl _ : List.Perm _ ([_, _, _, _] ++ _)) | exact (List.Perm.refl _ : List.Perm _ ([_, _, _, _, _] ++ _))) (by first | exact fun _ h => h | exact fun _ h => List.mem_cons_of_mem _ h | exact fun _ h => List.mem_cons_of_mem _ (List.mem_cons_of_mem _ h)) (r_loadf Tryd.underlying3 rfl rfl (by first | exact .fact (by repeat constructor) | exact .own (by repeat constructor) (by decide) (fun _ => rfl) | exact SlIn.reads (by repeat constructor) (by assumption)) (by assumption) (by rfl)).r ?_
  refine m_run 10 rfl (by kernel_rfl) ?_
  refine l_q (by decide) (q_call call_36 rfl (fun w hs => add_ok st.cost r (by omega) (by omega) (by omega) (by omega) w)) ?_
  refine l_nil ?_
  refine m_next _ (by first | exact (List.Perm.refl _ : List.Perm _ ([] ++ _)) | exact (List.Perm.refl _ : List.Perm _ ([_] ++ _)) | exact (List.Perm.refl _ : List.Perm _ ([_, _] ++ _)) | exact (List.Perm.refl _ : List.Perm _ ([_, _, _] ++ _)) | exact (List.Perm.refl _ : List.Perm _ ([_, _, _, _] ++ _)) | exact (List.Perm.refl _ : List.Perm _ ([_, _, _, _, _] ++ _))) (by first | exact fun _ h => h | exact fun _ h => List.mem_cons_of_mem _ h | exact fun _ h => List.mem_cons_of_mem _ (List.mem_cons_of_mem _ h)) ?_
  refine m_takep 11 rfl (by kernel_rfl) (by decide) (p_nilp rfl) ?_
  first | refine m_takep 12 rfl (by kernel_rfl) (by decide) (p_faddr (i := 3) 5 Tryd.underlying56 rfl inf_3 (by decide) rfl rfl) ?_ | refine m_takep 12 rfl (by kernel_rfl) (by decide) (p_faddro (i := 3) 5 Tryd.underlying56 rfl inf_3 (by decide) rfl rfl) ?_
  refine m_run 13 rfl (by kernel_rfl) ?_
  first | (refine l_store inf_3 rfl rfl rfl rfl (by first | decide | exact Nat.le_of_ble_eq_true rfl | (simp; done) | omega | (simp only [Nat.mul_one]; assumption)) ?_) | (refine l_perm (front1 _ _ _) ?_; refine l_store inf_3 rfl rfl rfl rfl (by first | decide | exact Nat.le_of_ble_eq_true rfl | (simp; done) | omega | (simp only [Nat.mul_one]; assumption)) ?_) | (refine l_perm (front2 _ _ _ _) ?_; refine l_store inf_3 rfl rfl rfl rfl (by first | decide | exact Nat.le_of_ble_eq_true rfl | (simp; done) | omega | (simp only [Nat.mul_one]; assumption)) ?_) | (refine l_perm (front3 _ _ _ _ _) ?_; refine l_store inf_3 rfl rfl rfl rfl (by first | decide | exact Nat.le_of_ble_eq_true rfl | (simp; done) | omega | (simp only [Nat.mul_one]; assumption)) ?_) | (refine l_perm (front4 _ _ _ _ _ _) ?_; refine l_store inf_3 rfl rfl rfl rfl (by first | decide | exact Nat.le_of_ble_eq_true rfl | (simp; done) | omega | (simp only [Nat.mul_one]; assumption)) ?_)
  refine l_nil ?_
  refine m_late rfl ?_
  refine m_done (by kernel_rfl) ?_
  refine c_seq ?_
  refine c_reg ?_
  refine l_q (by decide) (p_assign rfl).q ?_
  refine l_nil ?_
  refine c_ret ?_
  refine c_ret1 rfl rfl (fun w hs => ?_)
  have hex := exec_read (st := st) (op := ⟨1, t⟩) rfl hin.2.1 hcx hr hin.2.2.2
  exact ⟨x42, _, by rw [hex]; rfl, by rw [hex]; exact (hs.perm (front2 _ _ _ [])).drop⟩

theorem remove_ok (b : Nat) (X : Inp) (hX : X.small) (hO : Ed.Okin X.pl) (st : Ed.St) (A : Option Addr) (d : Nat) (K : List Nat) (w : World) (hat : st.at_ ≤ X.xs.length) (hc0 : 0 ≤ st.cost) (hc1 : st.cost ≤ 1099511627776) (ho : st.out.length ≤ 900000) (t : Int) (h : Fx.St w K w [iCells b 56 [.slice X.A X.xs.length X.c, .slice X.B X.ins.length X.d, .int .i64 X.sw, .int .i64 (st.at_ : Int), .slice A (st.out).length d, .int .i64 (st.cost)], iSl 3 1 intF A d (st.out)] [Rd X.xs, Sl 1 intF X.B X.ins, Sl 3 colF X.A X.xs]) :
   Calls Tryd.prog 59 #[.pointer (some ⟨b, 0, none⟩), .int .i64 t] w (Ret fun v w' => ∃ (x : Option Addr × Nat) (ρ' : Facts), v = .bool (Ed.exec X.pl st ⟨2, t⟩).isSome ∧ Fx.St w K w' [iCells b 56 [.slice X.A X.xs.length X.c, .slice X.B X.ins.length X.d, .int .i64 X.sw, .int .i64 (((Ed.exec X.pl st ⟨2, t⟩).getD st).at_ : Int), .slice x.1 (((Ed.exec X.pl st ⟨2, t⟩).getD st).out).length x.2, .int .i64 (((Ed.exec X.pl st ⟨2, t⟩).getD st).cost)], iSl 3 1 intF x.1 x.2 (((Ed.exec X.pl st ⟨2, t⟩).getD st).out)] ρ') := by
 have _ := ho
 have _ := hat
 refine calls_fx (l := [.pointer (some ⟨b, 0, none⟩), .int .i64 t]) Tryd.func59 rfl Tryd.ntmps59 (Nat.le_of_ble_eq_true rfl) h ?_
 refine c_seq ?_
 have hlen : st.at_ < X.xs.length → (colAt X st.at_).o.read.length = X.ins.length := fun h => (okin_cols hO _ (List.mem_of_getElem? (colAt_lt h))).len
 have hxl := hX.xs
 have hil := hX.ins
 refine c_reg ?_
 refine l_q (by decide) (p_assign rfl).q ?_
 refine l_nil ?_
 refine c_seq ?_
 refine c_reg ?_
 refine l_q (by decide) (p_move rfl).q ?_
 refine l_callo (X := Unit) (τ := [iCells b 56 [.slice X.A X.xs.length X.c, .slice X.B X.ins.length X.d, .int .i64 X.sw, .int .i64 (st.at_ : Int), .slice A (st.out).length d, .int .i64 (st.cost)], iSl 3 1 intF A d (st.out)]) (σ := []) (fun _ => .tuple #[.agg (colF (colAt X st.at_)).toArray, .bool (decide (st.at_ < X.xs.length))]) (fun _ => [iCells b 56 [.slice X.A X.xs.length X.c, .slice X.B X.ins.length X.d, .int .i64 X.sw, .int .i64 (st.at_ : Int), .slice A (st.out).length d, .int .i64 (st.cost)], iSl 3 1 intF A d (st.out)]) (by decide) call_62 rfl (fun w hs => next_ok b X hX hO st A d _ w hs) (fun _ => ?_)
 refine l_q (by decide) (p_move rfl).q ?_
 refine l_q (by decide) (p_extract rfl rfl).q ?_
 refine l_q (by decide) (p_extract rfl rfl).q ?_
 refine l_alloc (by decide) inf_44 _ rfl (fun b5 => ?_)
 first | (refine l_storew inf_44 rfl rfl rfl rfl rfl ?_) | (refine l_perm (front1 _ _ _) ?_; refine l_storew inf_44 rfl rfl rfl rfl rfl ?_) | (refine l_perm (front2 _ _ _ _) ?_; refine l_storew inf_44 rfl rfl rfl rfl rfl ?_) | (refine l_perm (front3 _ _ _ _ _) ?_; refine l_storew inf_44 rfl rfl rfl rfl rfl ?_) | (refine l_perm (front4 _ _ _ _ _ _) ?_; refine l_storew inf_44 rfl rfl rfl rfl rfl ?_) | (refine l_storea inf_44 rfl rfl rfl rfl (by decide) ?_) | (refine l_perm (front1 _ _ _) ?_; refine l_storea inf_44 rfl rfl rfl rfl (by decide) ?_) | (refine l_perm (front2 _ _ _ _) ?_; refine l_storea inf_44 rfl rfl rfl rfl (by decide) ?_)
 refine l_q (by decide) (p_assign rfl).q ?_
 refine l_nil ?_
 refine c_seq ?_
 refine c_seq ?_
 refine c_meetn (S := Unit) (fun zs => True) (fun zs => [(0, .pointer (some ⟨b, 0, none⟩)), (5, .pointer (some ⟨b5, 0, none⟩)), (22, .bool (decide (¬ (st.at_ < X.xs.length ∧ t = 0 ∧ (colAt X st.at_).o.del < 1099511627776))))]) (fun zs => [iCells b5 44 (colF (colAt X st.at_)), iCells b 56 [.slice X.A X.xs.length X.c, .slice X.B X.ins.length X.d, .int .i64 X.sw, .int .i64 (st.at_ : Int), .slice A (st.out).length d, .int .i64 (st.cost)], iSl 3 1 intF A d (st.out)]) (fun zs => [Rd X.xs, Sl 1 intF X.B X.ins, Sl 3 colF X.A X.xs]) ?_ ?_
 ·skip
  refine c_reg ?_
  refine l_q (by decide) (p_move rfl).q ?_
  first | refine l_q (by decide) (p_notd rfl).q ?_ | refine l_q (by decide) (p_not rfl).q ?_
  refine l_q (by decide) (p_move rfl).q ?_
  first | refine l_splitd (t := 14) rfl (fun h14 => ?_) (fun h14 => ?_) | refine l_splitb (t := 14) rfl (fun h14 => ?_) (fun h14 => ?_)
  ·skip
   refine l_off (j := 2) rfl rfl (by first | (simp; done) | (simp [undef]; done)) (by decide) ?_
   refine l_off (j := 2) rfl rfl (by first | (simp; done) | (simp [undef]; done)) (by decide) ?_
   refine l_q (by decide) (p_pick rfl rfl).q ?_
   refine l_q (by decide) (p_move rfl).q ?_
   refine l_off (j := 6) rfl rfl (by first | (simp; done) | (simp [undef]; done)) (by decide) ?_
   refine l_off (j := 6) rfl rfl (by first | (simp; done) | (simp [undef]; done)) (by decide) ?_
   refine l_off (j := 6) rfl rfl (by first | (simp; done) | (simp [undef]; done)) (by decide) ?_
   refine l_q (by decide) (p_pick rfl rfl).q ?_
   refine l_nil ?_
   refine c_join (()) ?inv ?sub ?perm ?facts
   case sub => exact ⟨rfl, rfl, (by first | rfl | exact congrArg (fun b => some (Value.bool b)) (decide_eq_true (by omega)).symm | exact congrArg (fun b => some (Value.bool b)) (decide_eq_false (by omega)).symm | exact congrArg (fun b => some (Value.bool b)) (decide_eq_decide.2 (by omega))), trivial⟩
   case perm =>
    exact .refl _
   case facts => exact fun _ h => h
   case inv =>
    trivial
  ·skip
   refine l_g (j := 2) rfl rfl (by decide) (p_move rfl).q ?_
   first | refine l_g (j := 2) rfl rfl (by decide) (p_neq (j := 0) rfl rfl rfl rfl).q ?_ | refine l_g (j := 2) rfl rfl (by decide) (p_neqi rfl rfl).q ?_
   refine l_q (by decide) (p_pick rfl rfl).q ?_
   refine l_q (by decide) (p_move rfl).q ?_
   first | refine l_splitd (t := 18) rfl (fun h18 => ?_) (fun h18 => ?_) | refine l_splitb (t := 18) rfl (fun h18 => ?_) (fun h18 => ?_)
   ·skip
    refine l_off (j := 6) rfl rfl (by first | (simp; done) | (simp [undef]; done)) (by decide) ?_
    refine l_off (j := 6) rfl rfl (by first | (simp; done) | (simp [undef]; done)) (by decide) ?_
    refine l_off (j := 6) rfl rfl (by first | (simp; done) | (simp [undef]; done)) (by decide) ?_
    refine l_q (by decide) (p_pick rfl rfl).q ?_
    refine l_nil ?_
    refine c_join (()) ?inv ?sub ?perm ?facts
    case sub => exact ⟨rfl, rfl, (by first | rfl | exact congrArg (fun b => some (Value.bool b)) (decide_eq_true (by omega)).symm | exact congrArg (fun b => some (Value.bool b)) (decide_eq_false (by omega)).symm | exact congrArg (fun b => some (Value.bool b)) (decide_eq_decide.2 (by omega))), trivial⟩
    case perm =>
     exact .refl _
    case facts => exact fun _ h => h
    case inv =>
     trivial
   ·skip
    first | refine l_g (j := 6) rfl rfl (by decide) (p_faddr (i := 2) 2 Tryd.underlying44 rfl inf_3 (by decide) rfl rfl).q ?_ | refine l_g (j := 6) rfl rfl (by decide) (p_faddro (i := 2) 2 Tryd.underlying44 rfl inf_3 (by decide) rfl rfl).q ?_
    first | refine l_g (j := 6) rfl rfl (by decide) (r_loado Tryd.underlying3 rfl rfl (by repeat constructor) (by rfl)).q ?_ | refine l_g (j := 6) rfl rfl (by decide) (r_load1 Tryd.underlying3 rfl rfl (by first | exact .fact (by repeat constructor) | exact .own (by repeat constructor) (by decide) (fun _ => rfl) | exact SlIn.reads (by repeat constructor) (by assumption)) (by first | assumption | rfl) (by rfl)).q ?_ | refine l_g (j := 6) rfl rfl (by decide) (r_loadf Tryd.underlying3 rfl rfl (by first | exact .fact (by repeat constructor) | exact .own (by repeat constructor) (by decide) (fun _ => rfl) | exact SlIn.reads (by repeat constructor) (by assumption)) (by assumption) (by rfl)).q ?_
    first | refine l_g (j := 6) rfl rfl (by decide) (p_geq (j := 1099511627776) rfl rfl rfl rfl).q ?_ | refine l_g (j := 6) rfl rfl (by decide) (p_geqi rfl rfl).q ?_
    refine l_q (by decide) (p_pick rfl rfl).q ?_
    refine l_nil ?_
    refine c_join (()) ?inv ?sub ?perm ?facts
    case sub => exact ⟨rfl, rfl, (by first | rfl | exact congrArg (fun b => some (Value.bool b)) (decide_eq_true (by omega)).symm | exact congrArg (fun b => some (Value.bool b)) (decide_eq_false (by omega)).symm | exact congrArg (fun b => some (Value.bool b)) (decide_eq_decide.2 (by omega))), trivial⟩
    case perm =>
     exact .refl _
    case facts => exact fun _ h => h
    case inv =>
     trivial
 rintro uu hmeet
 show Cont _ _ _ _ [(0, .pointer (some ⟨b, 0, none⟩)), (5, .pointer (some ⟨b5, 0, none⟩)), (22, .bool (decide (¬ (st.at_ < X.xs.length ∧ t = 0 ∧ (colAt X st.at_).o.del < 1099511627776))))] ([iCells b5 44 (colF (colAt X st.at_)), iCells b 56 [.slice X.A X.xs.length X.c, .slice X.B X.ins.length X.d, .int .i64 X.sw, .int .i64 (st.at_ : Int), .slice A (st.out).length d, .int .i64 (st.cost)], iSl 3 1 intF A d (st.out)]) [Rd X.xs, Sl 1 intF X.B X.ins, Sl 3 colF X.A X.xs]
 first | refine c_dec rfl (fun h22 => ?_) (fun h22 => ?_) | refine c_cond rfl (fun h22 => ?_) (fun h22 => ?_)
 ·skip
  refine c_seq ?_
  refine c_reg ?_
  refine l_q (by decide) (p_assign rfl).q ?_
  refine l_nil ?_
  refine c_ret ?_
  refine c_ret1 rfl rfl (fun w hs => ?_)
  have hex := exec_no (X := X) (st := st) (op := ⟨2, t⟩) (x := (colAt X st.at_)) (r := (((colAt X st.at_)).o.read[t.toNat]?).getD 0) colAt_lt hlen (fun h1 h2 h3 => by have := hlen h1; obtain ⟨r, hr⟩ := at_some (l := ((colAt X st.at_)).o.read) (n := t.toNat) (by have h3 : t < X.ins.length := h3; omega); show ((colAt X st.at_)).o.read[t.toNat]? = _; rw [hr]; rfl) (fun h => by cases h.1) (fun h => h22 ⟨h.2.1, h.2.2.1, h.2.2.2⟩) (fun h => by cases h.1) (fun h => by cases h.1)
  exact ⟨(A, d), _, by rw [hex]; rfl, by rw [hex]; exact hs.drop⟩
 ·skip
  have hin : st.at_ < X.xs.length ∧ t = 0 ∧ (colAt X st.at_).o.del < 1099511627776 := Classical.not_not.1 h22
  have hcx := colAt_lt hin.1
  have hoc := okin_cols hO _ (List.mem_of_getElem? hcx)
  have hd1 := hoc.d1
  have hd2 : (colAt X st.at_).o.del ≤ 60000 ∨ (colAt X st.at_).o.del = 1099511627776 := hoc.d2
  refine c_skip ?_
  refine c_seq ?_
  refine c_reg ?_
  refine l_q (by decide) (p_move rfl).q ?_
  refine l_q (by decide) (p_nilp rfl).q ?_
  first | refine l_q (by decide) (p_faddr (i := 1) 3 Tryd.underlying56 rfl inf_3 (by decide) rfl rfl).q ?_ | refine l_q (by decide) (p_faddro (i := 1) 3 Tryd.underlying56 rfl inf_3 (by decide) rfl rfl).q ?_
  first | refine l_q (by decide) (r_loado Tryd.underlying3 rfl rfl (by repeat constructor) (by rfl)).q ?_ | refine l_q (by decide) (r_load1 Tryd.underlying3 rfl rfl (by first | exact .fact (by repeat constructor) | exact .own (by repeat constructor) (by decide) (fun _ => rfl) | exact SlIn.reads (by repeat constructor) (by assumption)) (by first | assumption | rfl) (by rfl)).q ?_ | refine l_q (by decide) (r_loadf Tryd.underlying3 rfl rfl (by first | exact .fact (by repeat constructor) | exact .own (by repeat constructor) (by decide) (fun _ => rfl) | exact SlIn.reads (by repeat constructor) (by assumption)) (by assumption) (by rfl)).q ?_
  first | refine l_q (by decide) (p_add (j := 1) rfl rfl rfl rfl (by show _ ≤ (9223372036854775807 : Nat); omega)).q ?_ | refine l_q (by decide) (p_addi rfl rfl (by show (-9223372036854775808 : Int) ≤ _; omega) (by show _ ≤ ((9223372036854775807 : Nat) : Int); omega)).q ?_
  refine l_q (by decide) (p_nilp rfl).q ?_
  first | refine l_q (by decide) (p_faddr (i := 1) 3 Tryd.underlying56 rfl inf_3 (by decide) rfl rfl).q ?_ | refine l_q (by decide) (p_faddro (i := 1) 3 Tryd.underlying56 rfl inf_3 (by decide) rfl rfl).q ?_
  first | (refine l_store inf_3 rfl rfl rfl rfl (by first | decide | exact Nat.le_of_ble_eq_true rfl | (simp; done) | omega | (simp only [Nat.mul_one]; assumption)) ?_) | (refine l_perm (front1 _ _ _) ?_; refine l_store inf_3 rfl rfl rfl rfl (by first | decide | exact Nat.le_of_ble_eq_true rfl | (simp; done) | omega | (simp only [Nat.mul_one]; assumption)) ?_) | (refine l_perm (front2 _ _ _ _) ?_; refine l_store inf_3 rfl rfl rfl rfl (by first | decide | exact Nat.le_of_ble_eq_true rfl | (simp; done) | omega | (simp only [Nat.mul_one]; assumption)) ?_) | (refine l_perm (front3 _ _ _ _ _) ?_; refine l_store inf_3 rfl rfl rfl rfl (by first | decide | exact Nat.le_of_ble_eq_true rfl | (simp; done) | omega | (simp only [Nat.mul_one]; assumption)) ?_) | (refine l_perm (front4 _ _ _ _ _ _) ?_; refine l_store inf_3 rfl rfl rfl rfl (by first | decide | exact Nat.le_of_ble_eq_true rfl | (simp; done) | omega | (simp only [Nat.mul_one]; assumption)) ?_)
  refine l_nil ?_
  refine c_seq ?_
  refine m_draw [10] mixed ?_
  refine m_takep 0 rfl (by kernel_rfl) (by decide) (p_move rfl) ?_
  refine m_takep 1 rfl (by kernel_rfl) (by decide) (p_move rfl) ?_
  refine m_takep 2 rfl (by kernel_rfl) (by decide) (p_nilp rfl) ?_
  first | refine m_takep 3 rfl (by kernel_rfl) (by decide) (p_faddr (i := 3) 5 Tryd.underlying56 rfl inf_3 (by decide) rfl rfl) ?_ | refine m_takep 3 rfl (by kernel_rfl) (by decide) (p_faddro (i := 3) 5 Tryd.underlying56 rfl inf_3 (by decide) rfl rfl) ?_
  first | refine m_take 4 rfl (by kernel_rfl) (by decide) (by first | exact (List.Perm.refl _ : List.Perm _ ([] ++ _)) | exact (List.Perm.refl _ : List.Perm _ ([_] ++ _)) | exact (List.Perm.refl _ : List.Perm _ ([_, _] ++ _)) | exact (List.Perm.refl _ : List.Perm _ ([_, _, _] ++ _)) | exact (List.Perm.refl _ : List.Perm _ ([_, _, _, _] ++ _)) | exact (List.Perm.refl _ : List.Perm _ ([_, _, _, _, _] ++ _))) (by first | exact fun _ h => h | exact fun _ h => List.mem_cons_of_mem _ h | exact fun _ h => List.mem_cons_of_mem _ (List.mem_cons_of_mem _ h)) (r_loado Tryd.underlying3 rfl rfl (by repeat constructor) (by rfl)).r ?_ | refine m_take 4 rfl (by kernel_rfl) (by decide) (by first | exact (List.Perm.refl _ : List.Perm _ ([] ++ _)) | exact (List.Perm.refl _ : List.Perm _ ([_] ++ _)) | exact (List.Perm.refl _ : List.Perm _ ([_, _] ++ _)) | exact (List.Perm.refl _ : List.Perm _ ([_, _, _] ++ _)) | exact (List.Perm.refl _ : List.Perm _ ([_, _, _, _] ++ _)) | exact (List.Perm.refl _ : List.Perm _ ([_, _, _, _, _] ++ _))) (by first | exact fun _ h => h | exact fun _ h => List.mem_cons_of_mem _ h | exact fun _ h => List.mem_cons_of_mem _ (List.mem_cons_of_mem _ h)) (r_load1 Tryd.underlying3 rfl rfl (by first | exact .fact (by repeat constructor) | exact .own (by repeat constructor) (by decide) (fun _ => rfl) | exact SlIn.reads (by repeat constructor) (by assumption)) (by first | assumption | rfl) (by rfl)).r ?_ | refine m_take 4 rfl (by kernel_rfl) (by decide) (by first | exact (List.Perm.refl _ : List.Perm _ ([] ++ _)) | exact (List.Perm.refl _ : List.Perm _ ([_] ++ _)) | exact (List.Perm.refl _ : List.Perm _ ([_, _] ++ _)) | exact (List.Perm.refl _ : List.Perm _ ([_, _, _] ++ _)) | exact (List.Perm.refl _ : List.Perm _ ([_, _, _, _] ++ _)) | exact (List.Perm.refl _ : List.Perm _ ([_, _, _, _, _] ++ _))) (by first | exact fun _ h => h | exact fun _ h => List.mem_cons_of_mem _ h | exact fun _ h => List.mem_cons_of_mem _ (List.mem_cons_of_mem _ h)) (r_loadf Tryd.underlying3 rfl rfl (by first | exact .fact (by repeat constructor) | exact .own (by repeat constructor) (by decide) (fun _ => rfl) | exact SlIn.reads (by repeat constructor) (by assumption)) (by assumption) (by rfl)).r ?_
  first | refine m_takep 5 rfl (by kernel_rfl) (by decide) (p_faddr (i := 2) 2 Tryd.underlying44 rfl inf_3 (by decide) rfl rfl) ?_ | refine m_takep 5 rfl (by kernel_rfl) (by decide) (p_faddro (i := 2) 2 Tryd.underlying44 rfl inf_3 (by decide) rfl rfl) ?_
  first | refine m_take 6 rfl (by kernel_rfl) (by decide) (by first | exact (List.Perm.refl _ : List.Perm _ ([] ++ _)) | exact (List.Perm.refl _ : List.Perm _ ([_] ++ _)) | exact (List.Perm.refl _ : List.Perm _ ([_, _] ++ _)) | exact (List.Perm.refl _ : List.Perm _ ([_, _, _] ++ _)) | exact (List.Perm.refl _ : List.Perm _ ([_, _, _, _] ++ _)) | exact (List.Perm.refl _ : List.Perm _ ([_, _, _, _, _] ++ _))) (by first | exact fun _ h => h | exact fun _ h => List.mem_cons_of_mem _ h | exact fun _ h => List.mem_cons_of_mem _ (List.mem_cons_of_mem _ h)) (r_loado Tryd.underlying3 rfl rfl (by repeat constructor) (by rfl)).r ?_ | refine m_take 6 rfl (by kernel_rfl) (by decide) (by first | exact (List.Perm.refl _ : List.Perm _ ([] ++ _)) | exact (List.Perm.refl _ : List.Perm _ ([_] ++ _)) | exact (List.Perm.refl _ : List.Perm _ ([_, _] ++ _)) | exact (List.Perm.refl _ : List.Perm _ ([_, _, _] ++ _)) | exact (List.Perm.refl _ : List.Perm _ ([_, _, _, _] ++ _)) | exact (List.Perm.refl _ : List.Perm _ ([_, _, _, _, _] ++ _))) (by first | exact fun _ h => h | exact fun _ h => List.mem_cons_of_mem _ h | exact fun _ h => List.mem_cons_of_mem _ (List.mem_cons_of_mem _ h)) (r_load1 Tryd.underlying3 rfl rfl (by first | exact .fact (by repeat constructor) | exact .own (by repeat constructor) (by decide) (fun _ => rfl) | exact SlIn.reads (by repeat constructor) (by assumption)) (by first | assumption | rfl) (by rfl)).r ?_ | refine m_take 6 rfl (by kernel_rfl) (by decide) (by first | exact (List.Perm.refl _ : List.Perm _ ([] ++ _)) | exact (List.Perm.refl _ : List.Perm _ ([_] ++ _)) | exact (List.Perm.refl _ : List.Perm _ ([_, _] ++ _)) | exact (List.Perm.refl _ : List.Perm _ ([_, _, _] ++ _)) | exact (List.Perm.refl _ : List.Perm _ ([_, _, _, _] ++ _)) | exact (List.Perm.refl _ : List.Perm _ ([_, _, _, _, _] ++ _))) (by first | exact fun _ h => h | exact fun _ h => List.mem_cons_of_mem _ h | exact fun _ h => List.mem_cons_of_mem _ (List.mem_cons_of_mem _ h)) (r_loadf Tryd.underlying3 rfl rfl (by first | exact .fact (by repeat constructor) | exact .own (by repeat constructor) (by decide) (fun _ => rfl) | exact SlIn.reads (by repeat constructor) (by assumption)) (by assumption) (by rfl)).r ?_
  refine m_run 7 rfl (by kernel_rfl) ?_
  refine l_q (by decide) (q_call call_36 rfl (fun w hs => add_ok st.cost (colAt X st.at_).o.del (by omega) (by omega) (by omega) (by omega) w)) ?_
  refine l_nil ?_
  refine m_next _ (by first | exact (List.Perm.refl _ : List.Perm _ ([] ++ _)) | exact (List.Perm.refl _ : List.Perm _ ([_] ++ _)) | exact (List.Perm.refl _ : List.Perm _ ([_, _] ++ _)) | exact (List.Perm.refl _ : List.Perm _ ([_, _, _] ++ _)) | exact (List.Perm.refl _ : List.Perm _ ([_, _, _, _] ++ _)) | exact (List.Perm.refl _ : List.Perm _ ([_, _, _, _, _] ++ _))) (by first | exact fun _ h => h | exact fun _ h => List.mem_cons_of_mem _ h | exact fun _ h => List.mem_cons_of_mem _ (List.mem_cons_of_mem _ h)) ?_
  refine m_takep 8 rfl (by kernel_rfl) (by decide) (p_nilp rfl) ?_
  first | refine m_takep 9 rfl (by kernel_rfl) (by decide) (p_faddr (i := 3) 5 Tryd.underlying56 rfl inf_3 (by decide) rfl rfl) ?_ | refine m_takep 9 rfl (by kernel_rfl) (by decide) (p_faddro (i := 3) 5 Tryd.underlying56 rfl inf_3 (by decide) rfl rfl) ?_
  refine m_run 10 rfl (by kernel_rfl) ?_
  first | (refine l_store inf_3 rfl rfl rfl rfl (by first | decide | exact Nat.le_of_ble_eq_true rfl | (simp; done) | omega | (simp only [Nat.mul_one]; assumption)) ?_) | (refine l_perm (front1 _ _ _) ?_; refine l_store inf_3 rfl rfl rfl rfl (by first | decide | exact Nat.le_of_ble_eq_true rfl | (simp; done) | omega | (simp only [Nat.mul_one]; assumption)) ?_) | (refine l_perm (front2 _ _ _ _) ?_; refine l_store inf_3 rfl rfl rfl rfl (by first | decide | exact Nat.le_of_ble_eq_true rfl | (simp; done) | omega | (simp only [Nat.mul_one]; assumption)) ?_) | (refine l_perm (front3 _ _ _ _ _) ?_; refine l_store inf_3 rfl rfl rfl rfl (by first | decide | exact Nat.le_of_ble_eq_true rfl | (simp; done) | omega | (simp only [Nat.mul_one]; assumption)) ?_) | (refine l_perm (front4 _ _ _ _ _ _) ?_; refine l_store inf_3 rfl rfl rfl rfl (by first | decide | exact Nat.le_of_ble_eq_true rfl | (simp; done) | omega | (simp only [Nat.mul_one]; assumption)) ?_)
  refine l_nil ?_
  refine m_late rfl ?_
  refine m_done (by kernel_rfl) ?_
  refine c_seq ?_
  refine c_reg ?_
  refine l_q (by decide) (p_assign rfl).q ?_
  refine l_nil ?_
  refine c_ret ?_
  refine c_ret1 rfl rfl (fun w hs => ?_)
  have hex := exec_del (st := st) (op := ⟨2, t⟩) rfl hin.2.1 hcx hin.2.2
  exact ⟨(A, d), _, by rw [hex]; rfl, by rw [hex]; exact (hs.perm (front1 _ _ _)).drop⟩

theorem insert_ok (b : Nat) (X : Inp) (hX : X.small) (hO : Ed.Okin X.pl) (st : Ed.St) (A : Option Addr) (d : Nat) (K : List Nat) (w : World) (hat : st.at_ ≤ X.xs.length) (hc0 : 0 ≤ st.cost) (hc1 : st.cost ≤ 1099511627776) (ho : st.out.length ≤ 900000) (t : Int) (h : Fx.St w K w [iCells b 56 [.slice X.A X.xs.length X.c, .slice X.B X.ins.length X.d, .int .i64 X.sw, .int .i64 (st.at_ : Int), .slice A (st.out).length d, .int .i64 (st.cost)], iSl 3 1 intF A d (st.out)] [Rd X.xs, Sl 1 intF X.B X.ins, Sl 3 colF X.A X.xs]) :
   Calls Tryd.prog 60 #[.pointer (some ⟨b, 0, none⟩), .int .i64 t] w (Ret fun v w' => ∃ (x : Option Addr × Nat) (ρ' : Facts), v = .bool (Ed.exec X.pl st ⟨3, t⟩).isSome ∧ Fx.St w K w' [iCells b 56 [.slice X.A X.xs.length X.c, .slice X.B X.ins.length X.d, .int .i64 X.sw, .int .i64 (((Ed.exec X.pl st ⟨3, t⟩).getD st).at_ : Int), .slice x.1 (((Ed.exec X.pl st ⟨3, t⟩).getD st).out).length x.2, .int .i64 (((Ed.exec X.pl st ⟨3, t⟩).getD st).cost)], iSl 3 1 intF x.1 x.2 (((Ed.exec X.pl st ⟨3, t⟩).getD st).out)] ρ') := by
 have _ := ho
 have _ := hat
 refine calls_fx (l := [.pointer (some ⟨b, 0, none⟩), .int .i64 t]) Tryd.func60 rfl Tryd.ntmps60 (Nat.le_of_ble_eq_true rfl) h ?_
 refine c_seq ?_
 have hlen : st.at_ < X.xs.length → (colAt X st.at_).o.read.length = X.ins.length := fun h => (okin_cols hO _ (List.mem_of_getElem? (colAt_lt h))).len
 have hxl := hX.xs
 have hil := hX.ins
 refine c_reg ?_
 refine l_q (by decide) (p_assign rfl).q ?_
 refine l_nil ?_
 refine c_seq ?_
 refine c_seq ?_
 refine c_meetn (S := Unit) (fun zs => True) (fun zs => [(0, .pointer (some ⟨b, 0, none⟩)), (1, .int .i64 t), (16, .bool (decide (¬ (0 ≤ t ∧ t < X.ins.length))))]) (fun zs => [iCells b 56 [.slice X.A X.xs.length X.c, .slice X.B X.ins.length X.d, .int .i64 X.sw, .int .i64 (st.at_ : Int), .slice A (st.out).length d, .int .i64 (st.cost)], iSl 3 1 intF A d (st.out)]) (fun zs => [Rd X.xs, Sl 1 intF X.B X.ins, Sl 3 colF X.A X.xs]) ?_ ?_
 ·skip
  refine c_reg ?_
  refine l_q (by decide) (p_move rfl).q ?_
  first | refine l_q (by decide) (p_lss (j := 0) rfl rfl rfl rfl).q ?_ | refine l_q (by decide) (p_lssi rfl rfl).q ?_
  refine l_q (by decide) (p_move rfl).q ?_
  first | refine l_splitd (t := 7) rfl (fun h7 => ?_) (fun h7 => ?_) | refine l_splitb (t := 7) rfl (fun h7 => ?_) (fun h7 => ?_)
  ·skip
   refine l_off (j := 2) rfl rfl (by first | (simp; done) | (simp [undef]; done)) (by decide) ?_
   refine l_off (j := 2) rfl rfl (by first | (simp; done) | (simp [undef]; done)) (by decide) ?_
   refine l_off (j := 2) rfl rfl (by first | (simp; done) | (simp [undef]; done)) (by decide) ?_
   refine l_off (j := 2) rfl rfl (by first | (simp; done) | (simp [undef]; done)) (by decide) ?_
   refine l_off (j := 2) rfl rfl (by first | (simp; done) | (simp [undef]; done)) (by decide) ?_
   refine l_off (j := 2) rfl rfl (by first | (simp; done) | (simp [undef]; done)) (by decide) ?_
   refine l_off (j := 2) rfl rfl (by first | (simp; done) | (simp [undef]; done)) (by decide) ?_
   refine l_off (j := 2) rfl rfl (by first | (simp; done) | (simp [undef]; done)) (by decide) ?_
   refine l_q (by decide) (p_pick rfl rfl).q ?_
   refine l_nil ?_
   refine c_join (()) ?inv ?sub ?perm ?facts
   case sub => exact ⟨rfl, rfl, (by first | rfl | exact congrArg (fun b => some (Value.bool b)) (decide_eq_true (by omega)).symm | exact congrArg (fun b => some (Value.bool b)) (decide_eq_false (by omega)).symm | exact congrArg (fun b => some (Value.bool b)) (decide_eq_decide.2 (by omega))), trivial⟩
   case perm =>
    exact .refl _
   case facts => exact fun _ h => h
   case inv =>
    trivial
  ·skip
   refine l_g (j := 2) rfl rfl (by decide) (p_move rfl).q ?_
   refine l_g (j := 2) rfl rfl (by decide) (p_move rfl).q ?_
   refine l_g (j := 2) rfl rfl (by decide) (p_nilp rfl).q ?_
   first | refine l_g (j := 2) rfl rfl (by decide) (p_faddr (i := 0) 0 Tryd.underlying56 rfl inf_25 (by decide) rfl rfl).q ?_ | refine l_g (j := 2) rfl rfl (by decide) (p_faddro (i := 0) 0 Tryd.underlying56 rfl inf_25 (by decide) rfl rfl).q ?_
   first | refine l_g (j := 2) rfl rfl (by decide) (p_faddr (i := 1) 1 Tryd.underlying25 rfl inf_23 (by decide) rfl rfl).q ?_ | refine l_g (j := 2) rfl rfl (by decide) (p_faddro (i := 1) 1 Tryd.underlying25 rfl inf_23 (by decide) rfl rfl).q ?_
   first | refine l_g (j := 2) rfl rfl (by decide) (r_loado Tryd.underlying23 rfl rfl (by repeat constructor) (by rfl)).q ?_ | refine l_g (j := 2) rfl rfl (by decide) (r_load1 Tryd.underlying23 rfl rfl (by first | exact .fact (by repeat constructor) | exact .own (by repeat constructor) (by decide) (fun _ => rfl) | exact SlIn.reads (by repeat constructor) (by assumption)) (by first | assumption | rfl) (by rfl)).q ?_ | refine l_g (j := 2) rfl rfl (by decide) (r_loadf Tryd.underlying23 rfl rfl (by first | exact .fact (by repeat constructor) | exact .own (by repeat constructor) (by decide) (fun _ => rfl) | exact SlIn.reads (by repeat constructor) (by assumption)) (by assumption) (by rfl)).q ?_
   refine l_g (j := 2) rfl rfl (by decide) (p_len_sl Tryd.underlying23 rfl).q ?_
   first | refine l_g (j := 2) rfl rfl (by decide) (p_geq rfl rfl rfl rfl).q ?_ | refine l_g (j := 2) rfl rfl (by decide) (p_geqi rfl rfl).q ?_
   refine l_q (by decide) (p_pick rfl rfl).q ?_
   refine l_nil ?_
   refine c_join (()) ?inv ?sub ?perm ?facts
   case sub => exact ⟨rfl, rfl, (by first | rfl | exact congrArg (fun b => some (Value.bool b)) (decide_eq_true (by omega)).symm | exact congrArg (fun b => some (Value.bool b)) (decide_eq_false (by omega)).symm | exact congrArg (fun b => some (Value.bool b)) (decide_eq_decide.2 (by omega))), trivial⟩
   case perm =>
    exact .refl _
   case facts => exact fun _ h => h
   case inv =>
    trivial
 rintro uu hmeet
 show Cont _ _ _ _ [(0, .pointer (some ⟨b, 0, none⟩)), (1, .int .i64 t), (16, .bool (decide (¬ (0 ≤ t ∧ t < X.ins.length))))] ([iCells b 56 [.slice X.A X.xs.length X.c, .slice X.B X.ins.length X.d, .int .i64 X.sw, .int .i64 (st.at_ : Int), .slice A (st.out).length d, .int .i64 (st.cost)], iSl 3 1 intF A d (st.out)]) [Rd X.xs, Sl 1 intF X.B X.ins, Sl 3 colF X.A X.xs]
 first | refine c_dec rfl (fun h16 => ?_) (fun h16 => ?_) | refine c_cond rfl (fun h16 => ?_) (fun h16 => ?_)
 ·skip
  refine c_seq ?_
  refine c_reg ?_
  refine l_q (by decide) (p_assign rfl).q ?_
  refine l_nil ?_
  refine c_ret ?_
  refine c_ret1 rfl rfl (fun w hs => ?_)
  have hex := show Ed.exec X.pl st ⟨3, t⟩ = none by
    unfold Ed.exec
    rw [if_neg (fun h => by cases h), if_neg (fun h => by cases h), if_pos rfl, show Ed.at_ X.pl.ins t = none by
      unfold Ed.at_; split
      · rfl
      · exact List.getElem?_eq_none (by show X.ins.length ≤ _; omega)]
  exact ⟨(A, d), _, by rw [hex]; rfl, by rw [hex]; exact hs⟩
 ·skip
  have hin : 0 ≤ t ∧ t < X.ins.length := Classical.not_not.1 h16
  obtain ⟨q, hq⟩ := at_some (l := X.ins) (n := t.toNat) (by omega)
  have hql := at_lt hq
  have hq1 := hO.ins q (List.mem_of_getElem? hq)
  refine c_skip ?_
  refine c_seq ?_
  refine c_reg ?_
  refine l_q (by decide) (p_move rfl).q ?_
  refine l_q (by decide) (p_move rfl).q ?_
  refine l_callo (τ := [iCells b 56 [.slice X.A X.xs.length X.c, .slice X.B X.ins.length X.d, .int .i64 X.sw, .int .i64 (st.at_ : Int), .slice A (st.out).length d, .int .i64 (st.cost)], iSl 3 1 intF A d (st.out)]) (σ := []) (fun _ => .tuple #[]) (fun xx : Option Addr × Nat => [iCells b 56 [.slice X.A X.xs.length X.c, .slice X.B X.ins.length X.d, .int .i64 X.sw, .int .i64 (st.at_ : Int), .slice xx.1 (st.out ++ [t]).length xx.2, .int .i64 (st.cost)], iSl 3 1 intF xx.1 xx.2 (st.out ++ [t])]) (by decide) call_56 rfl (fun w hs => emit_ok b _ _ _ _ _ A d (st.out) t (by first | omega | (simp only [List.length_append, List.length_cons, List.length_nil]; omega)) _ _ w hs) (fun x19 => ?_)
  refine l_nil ?_
  refine c_seq ?_
  refine m_draw [16] mixed ?_
  refine m_takep 0 rfl (by kernel_rfl) (by decide) (p_move rfl) ?_
  refine m_takep 1 rfl (by kernel_rfl) (by decide) (p_move rfl) ?_
  refine m_takep 2 rfl (by kernel_rfl) (by decide) (p_nilp rfl) ?_
  first | refine m_takep 3 rfl (by kernel_rfl) (by decide) (p_faddr (i := 3) 5 Tryd.underlying56 rfl inf_3 (by decide) rfl rfl) ?_ | refine m_takep 3 rfl (by kernel_rfl) (by decide) (p_faddro (i := 3) 5 Tryd.underlying56 rfl inf_3 (by decide) rfl rfl) ?_
  first | refine m_take 4 rfl (by kernel_rfl) (by decide) (by first | exact (List.Perm.refl _ : List.Perm _ ([] ++ _)) | exact (List.Perm.refl _ : List.Perm _ ([_] ++ _)) | exact (List.Perm.refl _ : List.Perm _ ([_, _] ++ _)) | exact (List.Perm.refl _ : List.Perm _ ([_, _, _] ++ _)) | exact (List.Perm.refl _ : List.Perm _ ([_, _, _, _] ++ _)) | exact (List.Perm.refl _ : List.Perm _ ([_, _, _, _, _] ++ _))) (by first | exact fun _ h => h | exact fun _ h => List.mem_cons_of_mem _ h | exact fun _ h => List.mem_cons_of_mem _ (List.mem_cons_of_mem _ h)) (r_loado Tryd.underlying3 rfl rfl (by repeat constructor) (by rfl)).r ?_ | refine m_take 4 rfl (by kernel_rfl) (by decide) (by first | exact (List.Perm.refl _ : List.Perm _ ([] ++ _)) | exact (List.Perm.refl _ : List.Perm _ ([_] ++ _)) | exact (List.Perm.refl _ : List.Perm _ ([_, _] ++ _)) | exact (List.Perm.refl _ : List.Perm _ ([_, _, _] ++ _)) | exact (List.Perm.refl _ : List.Perm _ ([_, _, _, _] ++ _)) | exact (List.Perm.refl _ : List.Perm _ ([_, _, _, _, _] ++ _))) (by first | exact fun _ h => h | exact fun _ h => List.mem_cons_of_mem _ h | exact fun _ h => List.mem_cons_of_mem _ (List.mem_cons_of_mem _ h)) (r_load1 Tryd.underlying3 rfl rfl (by first | exact .fact (by repeat constructor) | exact .own (by repeat constructor) (by decide) (fun _ => rfl) | exact SlIn.reads (by repeat constructor) (by assumption)) (by first | assumption | rfl) (by rfl)).r ?_ | refine m_take 4 rfl (by kernel_rfl) (by decide) (by first | exact (List.Perm.refl _ : List.Perm _ ([] ++ _)) | exact (List.Perm.refl _ : List.Perm _ ([_] ++ _)) | exact (List.Perm.refl _ : List.Perm _ ([_, _] ++ _)) | exact (List.Perm.refl _ : List.Perm _ ([_, _, _] ++ _)) | exact (List.Perm.refl _ : List.Perm _ ([_, _, _, _] ++ _)) | exact (List.Perm.refl _ : List.Perm _ ([_, _, _, _, _] ++ _))) (by first | exact fun _ h => h | exact fun _ h => List.mem_cons_of_mem _ h | exact fun _ h => List.mem_cons_of_mem _ (List.mem_cons_of_mem _ h)) (r_loadf Tryd.underlying3 rfl rfl (by first | exact .fact (by repeat constructor) | exact .own (by repeat constructor) (by decide) (fun _ => rfl) | exact SlIn.reads (by repeat constructor) (by assumption)) (by assumption) (by rfl)).r ?_
  refine m_takep 5 rfl (by kernel_rfl) (by decide) (p_move rfl) ?_
  refine m_takep 6 rfl (by kernel_rfl) (by decide) (p_nilp rfl) ?_
  first | refine m_takep 7 rfl (by kernel_rfl) (by decide) (p_faddr (i := 0) 0 Tryd.underlying56 rfl inf_25 (by decide) rfl rfl) ?_ | refine m_takep 7 rfl (by kernel_rfl) (by decide) (p_faddro (i := 0) 0 Tryd.underlying56 rfl inf_25 (by decide) rfl rfl) ?_
  first | refine m_takep 8 rfl (by kernel_rfl) (by decide) (p_faddr (i := 1) 1 Tryd.underlying25 rfl inf_23 (by decide) rfl rfl) ?_ | refine m_takep 8 rfl (by kernel_rfl) (by decide) (p_faddro (i := 1) 1 Tryd.underlying25 rfl inf_23 (by decide) rfl rfl) ?_
  first | refine m_take 9 rfl (by kernel_rfl) (by decide) (by first | exact (List.Perm.refl _ : List.Perm _ ([] ++ _)) | exact (List.Perm.refl _ : List.Perm _ ([_] ++ _)) | exact (List.Perm.refl _ : List.Perm _ ([_, _] ++ _)) | exact (List.Perm.refl _ : List.Perm _ ([_, _, _] ++ _)) | exact (List.Perm.refl _ : List.Perm _ ([_, _, _, _] ++ _)) | exact (List.Perm.refl _ : List.Perm _ ([_, _, _, _, _] ++ _))) (by first | exact fun _ h => h | exact fun _ h => List.mem_cons_of_mem _ h | exact fun _ h => List.mem_cons_of_mem _ (List.mem_cons_of_mem _ h)) (r_loado Tryd.underlying23 rfl rfl (by repeat constructor) (by rfl)).r ?_ | refine m_take 9 rfl (by kernel_rfl) (by decide) (by first | exact (List.Perm.refl _ : List.Perm _ ([] ++ _)) | exact (List.Perm.refl _ : List.Perm _ ([_] ++ _)) | exact (List.Perm.refl _ : List.Perm _ ([_, _] ++ _)) | exact (List.Perm.refl _ : List.Perm _ ([_, _, _] ++ _)) | exact (List.Perm.refl _ : List.Perm _ ([_, _, _, _] ++ _)) | exact (List.Perm.refl _ : List.Perm _ ([_, _, _, _, _] ++ _))) (by first | exact fun _ h => h | exact fun _ h => List.mem_cons_of_mem _ h | exact fun _ h => List.mem_cons_of_mem _ (List.mem_cons_of_mem _ h)) (r_load1 Tryd.underlying23 rfl rfl (by first | exact .fact (by repeat constructor) | exact .own (by repeat constructor) (by decide) (fun _ => rfl) | exact SlIn.reads (by repeat constructor) (by assumption)) (by first | assumption | rfl) (by rfl)).r ?_ | refine m_take 9 rfl (by kernel_rfl) (by decide) (by first | exact (List.Perm.refl _ : List.Perm _ ([] ++ _)) | exact (List.Perm.refl _ : List.Perm _ ([_] ++ _)) | exact (List.Perm.refl _ : List.Perm _ ([_, _] ++ _)) | exact (List.Perm.refl _ : List.Perm _ ([_, _, _] ++ _)) | exact (List.Perm.refl _ : List.Perm _ ([_, _, _, _] ++ _)) | exact (List.Perm.refl _ : List.Perm _ ([_, _, _, _, _] ++ _))) (by first | exact fun _ h => h | exact fun _ h => List.mem_cons_of_mem _ h | exact fun _ h => List.mem_cons_of_mem _ (List.mem_cons_of_mem _ h)) (r_loadf Tryd.underlying23 rfl rfl (by first | exact .fact (by repeat constructor) | exact .own (by repeat constructor) (by decide) (fun _ => rfl) | exact SlIn.reads (by repeat constructor) (by assumption)) (by assumption) (by rfl)).r ?_
  refine m_takep 10 rfl (by kernel_rfl) (by decide) (((p_move rfl)).to (u := .int .i64 (t.toNat : Int)) (by rw [Int.toNat_of_nonneg (by omega)])) ?_
  first | refine m_take 11 rfl (by kernel_rfl) (by decide) (by first | exact (List.Perm.refl _ : List.Perm _ ([] ++ _)) | exact (List.Perm.refl _ : List.Perm _ ([_] ++ _)) | exact (List.Perm.refl _ : List.Perm _ ([_, _] ++ _)) | exact (List.Perm.refl _ : List.Perm _ ([_, _, _] ++ _)) | exact (List.Perm.refl _ : List.Perm _ ([_, _, _, _] ++ _)) | exact (List.Perm.refl _ : List.Perm _ ([_, _, _, _, _] ++ _))) (by first | exact fun _ h => h | exact fun _ h => List.mem_cons_of_mem _ h | exact fun _ h => List.mem_cons_of_mem _ (List.mem_cons_of_mem _ h)) (r_index Tryd.underlying23 inf_3 rfl rfl rfl (by first | exact .fact (by repeat constructor) | exact .own (by repeat constructor) (by decide) (fun _ => rfl) | exact SlIn.reads (by repeat constructor) (by assumption)) rfl (by omega)).r ?_ | refine m_take 11 rfl (by kernel_rfl) (by decide) (by first | exact (List.Perm.refl _ : List.Perm _ ([] ++ _)) | exact (List.Perm.refl _ : List.Perm _ ([_] ++ _)) | exact (List.Perm.refl _ : List.Perm _ ([_, _] ++ _)) | exact (List.Perm.refl _ : List.Perm _ ([_, _, _] ++ _)) | exact (List.Perm.refl _ : List.Perm _ ([_, _, _, _] ++ _)) | exact (List.Perm.refl _ : List.Perm _ ([_, _, _, _, _] ++ _))) (by first | exact fun _ h => h | exact fun _ h => List.mem_cons_of_mem _ h | exact fun _ h => List.mem_cons_of_mem _ (List.mem_cons_of_mem _ h)) (r_index Tryd.underlying23 inf_3 rfl rfl rfl (by first | exact .fact (by repeat constructor) | exact .own (by repeat constructor) (by decide) (fun _ => rfl) | exact SlIn.reads (by repeat constructor) (by assumption)) rfl (by decide)).r ?_ | refine m_takep 11 rfl (by kernel_rfl) (by decide) (p_indexo Tryd.underlying23 inf_3 rfl rfl rfl (by omega)) ?_
  first | refine m_take 12 rfl (by kernel_rfl) (by decide) (by first | exact (List.Perm.refl _ : List.Perm _ ([] ++ _)) | exact (List.Perm.refl _ : List.Perm _ ([_] ++ _)) | exact (List.Perm.refl _ : List.Perm _ ([_, _] ++ _)) | exact (List.Perm.refl _ : List.Perm _ ([_, _, _] ++ _)) | exact (List.Perm.refl _ : List.Perm _ ([_, _, _, _] ++ _)) | exact (List.Perm.refl _ : List.Perm _ ([_, _, _, _, _] ++ _))) (by first | exact fun _ h => h | exact fun _ h => List.mem_cons_of_mem _ h | exact fun _ h => List.mem_cons_of_mem _ (List.mem_cons_of_mem _ h)) (r_loado Tryd.underlying3 rfl rfl (by repeat constructor) (by rfl)).r ?_ | refine m_take 12 rfl (by kernel_rfl) (by decide) (by first | exact (List.Perm.refl _ : List.Perm _ ([] ++ _)) | exact (List.Perm.refl _ : List.Perm _ ([_] ++ _)) | exact (List.Perm.refl _ : List.Perm _ ([_, _] ++ _)) | exact (List.Perm.refl _ : List.Perm _ ([_, _, _] ++ _)) | exact (List.Perm.refl _ : List.Perm _ ([_, _, _, _] ++ _)) | exact (List.Perm.refl _ : List.Perm _ ([_, _, _, _, _] ++ _))) (by first | exact fun _ h => h | exact fun _ h => List.mem_cons_of_mem _ h | exact fun _ h => List.mem_cons_of_mem _ (List.mem_cons_of_mem _ h)) (r_load1 Tryd.underlying3 rfl rfl (by first | exact .fact (by repeat constructor) | exact .own (by repeat constructor) (by decide) (fun _ => rfl) | exact SlIn.reads (by repeat constructor) (by assumption)) (by first | assumption | rfl) (by rfl)).r ?_ | refine m_take 12 rfl (by kernel_rfl) (by decide) (by first | exact (List.Perm.refl _ : List.Perm _ ([] ++ _)) | exact (List.Perm.refl _ : List.Perm _ ([_] ++ _)) | exact (List.Perm.refl _ : List.Perm _ ([_, _] ++ _)) | exact (List.Perm.refl _ : List.Perm _ ([_, _, _] ++ _)) | exact (List.Perm.refl _ : List.Perm _ ([_, _, _, _] ++ _)) | exact (List.Perm.refl _ : List.Perm _ ([_, _, _, _, _] ++ _))) (by first | exact fun _ h => h | exact fun _ h => List.mem_cons_of_mem _ h | exact fun _ h => List.mem_cons_of_mem _ (List.mem_cons_of_mem _ h)) (r_loadf Tryd.underlying3 rfl rfl (by first | exact .fact (by repeat constructor) | exact .own (by repeat constructor) (by decide) (fun _ => rfl) | exact SlIn.reads (by repeat constructor) (by assumption)) (by assumption) (by rfl)).r ?_
  refine m_run 13 rfl (by kernel_rfl) ?_
  refine l_q (by decide) (q_call call_36 rfl (fun w hs => add_ok st.cost q (by omega) (by omega) (by omega) (by omega) w)) ?_
  refine l_nil ?_
  refine m_next _ (by first | exact (List.Perm.refl _ : List.Perm _ ([] ++ _)) | exact (List.Perm.refl _ : List.Perm _ ([_] ++ _)) | exact (List.Perm.refl _ : List.Perm _ ([_, _] ++ _)) | exact (List.Perm.refl _ : List.Perm _ ([_, _, _] ++ _)) | exact (List.Perm.refl _ : List.Perm _ ([_, _, _, _] ++ _)) | exact (List.Perm.refl _ : List.Perm _ ([_, _, _, _, _] ++ _))) (by first | exact fun _ h => h | exact fun _ h => List.mem_cons_of_mem _ h | exact fun _ h => List.mem_cons_of_mem _ (List.mem_cons_of_mem _ h)) ?_
  refine m_takep 14 rfl (by kernel_rfl) (by decide) (p_nilp rfl) ?_
  first | refine m_takep 15 rfl (by kernel_rfl) (by decide) (p_faddr (i := 3) 5 Tryd.underlying56 rfl inf_3 (by decide) rfl rfl) ?_ | refine m_takep 15 rfl (by kernel_rfl) (by decide) (p_faddro (i := 3) 5 Tryd.underlying56 rfl inf_3 (by decide) rfl rfl) ?_
  refine m_run 16 rfl (by kernel_rfl) ?_
  first | (refine l_store inf_3 rfl rfl rfl rfl (by first | decide | exact Nat.le_of_ble_eq_true rfl | (simp; done) | omega | (simp only [Nat.mul_one]; assumption)) ?_) | (refine l_perm (front1 _ _ _) ?_; refine l_store inf_3 rfl rfl rfl rfl (by first | decide | exact Nat.le_of_ble_eq_true rfl | (simp; done) | omega | (simp only [Nat.mul_one]; assumption)) ?_) | (refine l_perm (front2 _ _ _ _) ?_; refine l_store inf_3 rfl rfl rfl rfl (by first | decide | exact Nat.le_of_ble_eq_true rfl | (simp; done) | omega | (simp only [Nat.mul_one]; assumption)) ?_) | (refine l_perm (front3 _ _ _ _ _) ?_; refine l_store inf_3 rfl rfl rfl rfl (by first | decide | exact Nat.le_of_ble_eq_true rfl | (simp; done) | omega | (simp only [Nat.mul_one]; assumption)) ?_) | (refine l_perm (front4 _ _ _ _ _ _) ?_; refine l_store inf_3 rfl rfl rfl rfl (by first | decide | exact Nat.le_of_ble_eq_true rfl | (simp; done) | omega | (simp only [Nat.mul_one]; assumption)) ?_)
  refine l_nil ?_
  refine m_late rfl ?_
  refine m_done (by kernel_rfl) ?_
  refine c_seq ?_
  refine c_reg ?_
  refine l_q (by decide) (p_assign rfl).q ?_
  refine l_nil ?_
  refine c_ret ?_
  refine c_ret1 rfl rfl (fun w hs => ?_)
  have hex := exec_ins (st := st) (op := ⟨3, t⟩) rfl hin.1 hq
  exact ⟨x19, _, by rw [hex]; rfl, by rw [hex]; exact hs⟩

theorem swapact_ok (b : Nat) (X : Inp) (hX : X.small) (hO : Ed.Okin X.pl) (st : Ed.St) (A : Option Addr) (d : Nat) (K : List Nat) (w : World) (hat : st.at_ ≤ X.xs.length) (hc0 : 0 ≤ st.cost) (hc1 : st.cost ≤ 1099511627776) (ho : st.out.length ≤ 900000) (t : Int) (h : Fx.St w K w [iCells b 56 [.slice X.A X.xs.length X.c, .slice X.B X.ins.length X.d, .int .i64 X.sw, .int .i64 (st.at_ : Int), .slice A (st.out).length d, .int .i64 (st.cost)], iSl 3 1 intF A d (st.out)] [Rd X.xs, Sl 1 intF X.B X.ins, Sl 3 colF X.A X.xs]) :
   Calls Tryd.prog 61 #[.pointer (some ⟨b, 0, none⟩), .int .i64 t] w (Ret fun v w' => ∃ (x : Option Addr × Nat) (ρ' : Facts), v = .bool (Ed.exec X.pl st ⟨4, t⟩).isSome ∧ Fx.St w K w' [iCells b 56 [.slice X.A X.xs.length X.c, .slice X.B X.ins.length X.d, .int .i64 X.sw, .int .i64 (((Ed.exec X.pl st ⟨4, t⟩).getD st).at_ : Int), .slice x.1 (((Ed.exec X.pl st ⟨4, t⟩).getD st).out).length x.2, .int .i64 (((Ed.exec X.pl st ⟨4, t⟩).getD st).cost)], iSl 3 1 intF x.1 x.2 (((Ed.exec X.pl st ⟨4, t⟩).getD st).out)] ρ') := by
 have _ := ho
 have _ := hat
 refine calls_fx (l := [.pointer (some ⟨b, 0, none⟩), .int .i64 t]) Tryd.func61 rfl Tryd.ntmps61 (Nat.le_of_ble_eq_true rfl) h ?_
 refine c_seq ?_
 have hlen : st.at_ < X.xs.length → (colAt X st.at_).o.read.length = X.ins.length := fun h => (okin_cols hO _ (List.mem_of_getElem? (colAt_lt h))).len
 have hxl := hX.xs
 have hil := hX.ins
 have hs0 : 0 ≤ X.sw := hO.s0
 have hs1 : X.sw ≤ 60000 := hO.s1
 refine c_reg ?_
 refine l_q (by decide) (p_assign rfl).q ?_
 refine l_nil ?_
 refine c_seq ?_
 refine c_seq ?_
 refine c_meetn (S := Unit) (fun zs => True) (fun zs => [(0, .pointer (some ⟨b, 0, none⟩)), (18, .bool (dec (¬ (t = 0 ∧ (Ed.swp X.pl st.at_).isSome = true))))]) (fun zs => [iCells b 56 [.slice X.A X.xs.length X.c, .slice X.B X.ins.length X.d, .int .i64 X.sw, .int .i64 (st.at_ : Int), .slice A (st.out).length d, .int .i64 (st.cost)], iSl 3 1 intF A d (st.out)]) (fun zs => [Rd X.xs, Sl 1 intF X.B X.ins, Sl 3 colF X.A X.xs]) ?_ ?_
 ·skip
  refine c_draw mixed (by decide +kernel) ?_
  refine q_q (by decide) (p_move rfl).q ?_
  first | refine q_q (by decide) (p_neq (j := 0) rfl rfl rfl rfl).q ?_ | refine q_q (by decide) (p_neqi rfl rfl).q ?_
  refine q_q (by decide) (p_move rfl).q ?_
  first | refine q_splitd (t := 7) rfl (fun h7 => ?_) (fun h7 => ?_) | refine q_splitb (t := 7) rfl (fun h7 => ?_) (fun h7 => ?_)
  ·skip
   refine q_off (j := 2) rfl rfl (by first | (simp; done) | (simp [undef]; done)) (by decide) ?_
   refine q_off (j := 2) rfl rfl (by first | (simp; done) | (simp [undef]; done)) (by decide) ?_
   refine q_off (j := 2) rfl rfl (by first | (simp; done) | (simp [undef]; done)) (by decide) ?_
   refine q_off (j := 2) rfl rfl (by first | (simp; done) | (simp [undef]; done)) (by decide) ?_
   refine q_off (j := 2) rfl rfl (by first | (simp; done) | (simp [undef]; done)) (by decide) ?_
   refine q_off (j := 2) rfl rfl (by first | (simp; done) | (simp [undef]; done)) (by decide) ?_
   refine q_off (j := 2) rfl rfl (by first | (simp; done) | (simp [undef]; done)) (by decide) ?_
   refine q_off (j := 2) rfl rfl (by first | (simp; done) | (simp [undef]; done)) (by decide) ?_
   refine q_off (j := 2) rfl rfl (by first | (simp; done) | (simp [undef]; done)) (by decide) ?_
   refine q_off (j := 2) rfl rfl (by first | (simp; done) | (simp [undef]; done)) (by decide) ?_
   refine q_q (by decide) (p_pick rfl rfl).q ?_
   refine q_nil ?_
   refine c_join (()) ?inv ?sub ?perm ?facts
   case sub => exact ⟨rfl, (by rw [dec_true (fun h => by omega)]; rfl), trivial⟩
   case perm =>
    exact .refl _
   case facts => exact fun _ h => h
   case inv =>
    trivial
  ·skip
   refine q_g (j := 2) rfl rfl (by decide) (p_move rfl).q ?_
   refine q_g (j := 2) rfl rfl (by decide) (p_nilp rfl).q ?_
   first | refine q_g (j := 2) rfl rfl (by decide) (p_faddr (i := 0) 0 Tryd.underlying56 rfl inf_25 (by decide) rfl rfl).q ?_ | refine q_g (j := 2) rfl rfl (by decide) (p_faddro (i := 0) 0 Tryd.underlying56 rfl inf_25 (by decide) rfl rfl).q ?_
   refine q_g (j := 2) rfl rfl (by decide) (r_loadoa (us := [.slice X.A X.xs.length X.c, .slice X.B X.ins.length X.d, .int .i64 X.sw]) Tryd.underlying25 rfl inf_25 rfl (by repeat constructor) (by rfl) (fun j u h => sub3 h)).q ?_
   refine q_g (j := 2) rfl rfl (by decide) (p_move rfl).q ?_
   refine q_g (j := 2) rfl rfl (by decide) (p_nilp rfl).q ?_
   first | refine q_g (j := 2) rfl rfl (by decide) (p_faddr (i := 1) 3 Tryd.underlying56 rfl inf_3 (by decide) rfl rfl).q ?_ | refine q_g (j := 2) rfl rfl (by decide) (p_faddro (i := 1) 3 Tryd.underlying56 rfl inf_3 (by decide) rfl rfl).q ?_
   first | refine q_g (j := 2) rfl rfl (by decide) (r_loado Tryd.underlying3 rfl rfl (by repeat constructor) (by rfl)).q ?_ | refine q_g (j := 2) rfl rfl (by decide) (r_load1 Tryd.underlying3 rfl rfl (by first | exact .fact (by repeat constructor) | exact .own (by repeat constructor) (by decide) (fun _ => rfl) | exact SlIn.reads (by repeat constructor) (by assumption)) (by first | assumption | rfl) (by rfl)).q ?_ | refine q_g (j := 2) rfl rfl (by decide) (r_loadf Tryd.underlying3 rfl rfl (by first | exact .fact (by repeat constructor) | exact .own (by repeat constructor) (by decide) (fun _ => rfl) | exact SlIn.reads (by repeat constructor) (by assumption)) (by assumption) (by rfl)).q ?_
   refine q_g (j := 2) rfl rfl (by decide) (q_call call_39 rfl (fun w hs => swap2_ok X hX w (X.of hs (by repeat constructor) (by repeat constructor) (by repeat constructor)) st.at_ (by omega))) ?_
   first | refine q_g (j := 2) rfl rfl (by decide) (p_notd rfl).q ?_ | refine q_g (j := 2) rfl rfl (by decide) (p_not rfl).q ?_
   refine q_q (by decide) (p_pick rfl rfl).q ?_
   refine q_nil ?_
   refine c_join (()) ?inv ?sub ?perm ?facts
   case sub => exact ⟨rfl, (by cases hsw : Ed.swp X.pl st.at_ with | none => rw [dec_true (fun h => by cases h.2)]; rfl | some p => rw [dec_false (fun h => h ⟨by omega, rfl⟩)]; rfl), trivial⟩
   case perm =>
    exact .refl _
   case facts => exact fun _ h => h
   case inv =>
    trivial
 rintro uu hmeet
 show Cont _ _ _ _ [(0, .pointer (some ⟨b, 0, none⟩)), (18, .bool (dec (¬ (t = 0 ∧ (Ed.swp X.pl st.at_).isSome = true))))] ([iCells b 56 [.slice X.A X.xs.length X.c, .slice X.B X.ins.length X.d, .int .i64 X.sw, .int .i64 (st.at_ : Int), .slice A (st.out).length d, .int .i64 (st.cost)], iSl 3 1 intF A d (st.out)]) [Rd X.xs, Sl 1 intF X.B X.ins, Sl 3 colF X.A X.xs]
 first | refine c_dec rfl (fun h18 => ?_) (fun h18 => ?_) | refine c_cond rfl (fun h18 => ?_) (fun h18 => ?_)
 ·skip
  refine c_seq ?_
  refine c_reg ?_
  refine l_q (by decide) (p_assign rfl).q ?_
  refine l_nil ?_
  refine c_ret ?_
  refine c_ret1 rfl rfl (fun w hs => ?_)
  have hex := show Ed.exec X.pl st ⟨4, t⟩ = none by
    unfold Ed.exec
    rw [if_neg (fun h => by cases h), if_neg (fun h => by cases h), if_neg (fun h => by cases h), if_pos rfl]
    cases hsw : Ed.swp X.pl st.at_ with
    | none => rfl
    | some p => obtain ⟨a, b⟩ := p; simp only; rw [if_neg (fun h => of_dec h18 ⟨h, by rw [hsw]; rfl⟩)]
  exact ⟨(A, d), _, by rw [hex]; rfl, by rw [hex]; exact hs⟩
 ·skip
  have hin : t = 0 ∧ (Ed.swp X.pl st.at_).isSome = true := Classical.not_not.1 (fun h => by rw [dec_true h] at h18; cases h18)
  obtain ⟨x, x2, hx, hx2, hsw⟩ : ∃ x x2, X.xs[st.at_]? = some x ∧ X.xs[st.at_ + 1]? = some x2 ∧ Ed.swp X.pl st.at_ = some (x.o.kind, x2.o.kind) := by
    cases hsw : Ed.swp X.pl st.at_ with
    | none => rw [hsw] at hin; cases hin.2
    | some p => obtain ⟨a, b⟩ := p; obtain ⟨z, z2, h1, h2, rfl, rfl⟩ := swp_at hsw; exact ⟨z, z2, h1, h2, rfl⟩
  have hxl1 := at_lt hx
  have hxl2 := at_lt hx2
  refine c_skip ?_
  refine c_seq ?_
  refine m_draw [14] mixed ?_
  refine m_takep 0 rfl (by kernel_rfl) (by decide) (p_move rfl) ?_
  refine m_takep 1 rfl (by kernel_rfl) (by decide) (p_move rfl) ?_
  refine m_takep 2 rfl (by kernel_rfl) (by decide) (p_nilp rfl) ?_
  first | refine m_takep 3 rfl (by kernel_rfl) (by decide) (p_faddr (i := 0) 0 Tryd.underlying56 rfl inf_25 (by decide) rfl rfl) ?_ | refine m_takep 3 rfl (by kernel_rfl) (by decide) (p_faddro (i := 0) 0 Tryd.underlying56 rfl inf_25 (by decide) rfl rfl) ?_
  first | refine m_takep 4 rfl (by kernel_rfl) (by decide) (p_faddr (i := 0) 0 Tryd.underlying25 rfl inf_22 (by decide) rfl rfl) ?_ | refine m_takep 4 rfl (by kernel_rfl) (by decide) (p_faddro (i := 0) 0 Tryd.underlying25 rfl inf_22 (by decide) rfl rfl) ?_
  first | refine m_take 5 rfl (by kernel_rfl) (by decide) (by first | exact (List.Perm.refl _ : List.Perm _ ([] ++ _)) | exact (List.Perm.refl _ : List.Perm _ ([_] ++ _)) | exact (List.Perm.refl _ : List.Perm _ ([_, _] ++ _)) | exact (List.Perm.refl _ : List.Perm _ ([_, _, _] ++ _)) | exact (List.Perm.refl _ : List.Perm _ ([_, _, _, _] ++ _)) | exact (List.Perm.refl _ : List.Perm _ ([_, _, _, _, _] ++ _))) (by first | exact fun _ h => h | exact fun _ h => List.mem_cons_of_mem _ h | exact fun _ h => List.mem_cons_of_mem _ (List.mem_cons_of_mem _ h)) (r_loado Tryd.underlying22 rfl rfl (by repeat constructor) (by rfl)).r ?_ | refine m_take 5 rfl (by kernel_rfl) (by decide) (by first | exact (List.Perm.refl _ : List.Perm _ ([] ++ _)) | exact (List.Perm.refl _ : List.Perm _ ([_] ++ _)) | exact (List.Perm.refl _ : List.Perm _ ([_, _] ++ _)) | exact (List.Perm.refl _ : List.Perm _ ([_, _, _] ++ _)) | exact (List.Perm.refl _ : List.Perm _ ([_, _, _, _] ++ _)) | exact (List.Perm.refl _ : List.Perm _ ([_, _, _, _, _] ++ _))) (by first | exact fun _ h => h | exact fun _ h => List.mem_cons_of_mem _ h | exact fun _ h => List.mem_cons_of_mem _ (List.mem_cons_of_mem _ h)) (r_load1 Tryd.underlying22 rfl rfl (by first | exact .fact (by repeat constructor) | exact .own (by repeat constructor) (by decide) (fun _ => rfl) | exact SlIn.reads (by repeat constructor) (by assumption)) (by first | assumption | rfl) (by rfl)).r ?_ | refine m_take 5 rfl (by kernel_rfl) (by decide) (by first | exact (List.Perm.refl _ : List.Perm _ ([] ++ _)) | exact (List.Perm.refl _ : List.Perm _ ([_] ++ _)) | exact (List.Perm.refl _ : List.Perm _ ([_, _] ++ _)) | exact (List.Perm.refl _ : List.Perm _ ([_, _, _] ++ _)) | exact (List.Perm.refl _ : List.Perm _ ([_, _, _, _] ++ _)) | exact (List.Perm.refl _ : List.Perm _ ([_, _, _, _, _] ++ _))) (by first | exact fun _ h => h | exact fun _ h => List.mem_cons_of_mem _ h | exact fun _ h => List.mem_cons_of_mem _ (List.mem_cons_of_mem _ h)) (r_loadf Tryd.underlying22 rfl rfl (by first | exact .fact (by repeat constructor) | exact .own (by repeat constructor) (by decide) (fun _ => rfl) | exact SlIn.reads (by repeat constructor) (by assumption)) (by assumption) (by rfl)).r ?_
  refine m_takep 6 rfl (by kernel_rfl) (by decide) (p_move rfl) ?_
  refine m_takep 7 rfl (by kernel_rfl) (by decide) (p_nilp rfl) ?_
  first | refine m_takep 8 rfl (by kernel_rfl) (by decide) (p_faddr (i := 1) 3 Tryd.underlying56 rfl inf_3 (by decide) rfl rfl) ?_ | refine m_takep 8 rfl (by kernel_rfl) (by decide) (p_faddro (i := 1) 3 Tryd.underlying56 rfl inf_3 (by decide) rfl rfl) ?_
  first | refine m_take 9 rfl (by kernel_rfl) (by decide) (by first | exact (List.Perm.refl _ : List.Perm _ ([] ++ _)) | exact (List.Perm.refl _ : List.Perm _ ([_] ++ _)) | exact (List.Perm.refl _ : List.Perm _ ([_, _] ++ _)) | exact (List.Perm.refl _ : List.Perm _ ([_, _, _] ++ _)) | exact (List.Perm.refl _ : List.Perm _ ([_, _, _, _] ++ _)) | exact (List.Perm.refl _ : List.Perm _ ([_, _, _, _, _] ++ _))) (by first | exact fun _ h => h | exact fun _ h => List.mem_cons_of_mem _ h | exact fun _ h => List.mem_cons_of_mem _ (List.mem_cons_of_mem _ h)) (r_loado Tryd.underlying3 rfl rfl (by repeat constructor) (by rfl)).r ?_ | refine m_take 9 rfl (by kernel_rfl) (by decide) (by first | exact (List.Perm.refl _ : List.Perm _ ([] ++ _)) | exact (List.Perm.refl _ : List.Perm _ ([_] ++ _)) | exact (List.Perm.refl _ : List.Perm _ ([_, _] ++ _)) | exact (List.Perm.refl _ : List.Perm _ ([_, _, _] ++ _)) | exact (List.Perm.refl _ : List.Perm _ ([_, _, _, _] ++ _)) | exact (List.Perm.refl _ : List.Perm _ ([_, _, _, _, _] ++ _))) (by first | exact fun _ h => h | exact fun _ h => List.mem_cons_of_mem _ h | exact fun _ h => List.mem_cons_of_mem _ (List.mem_cons_of_mem _ h)) (r_load1 Tryd.underlying3 rfl rfl (by first | exact .fact (by repeat constructor) | exact .own (by repeat constructor) (by decide) (fun _ => rfl) | exact SlIn.reads (by repeat constructor) (by assumption)) (by first | assumption | rfl) (by rfl)).r ?_ | refine m_take 9 rfl (by kernel_rfl) (by decide) (by first | exact (List.Perm.refl _ : List.Perm _ ([] ++ _)) | exact (List.Perm.refl _ : List.Perm _ ([_] ++ _)) | exact (List.Perm.refl _ : List.Perm _ ([_, _] ++ _)) | exact (List.Perm.refl _ : List.Perm _ ([_, _, _] ++ _)) | exact (List.Perm.refl _ : List.Perm _ ([_, _, _, _] ++ _)) | exact (List.Perm.refl _ : List.Perm _ ([_, _, _, _, _] ++ _))) (by first | exact fun _ h => h | exact fun _ h => List.mem_cons_of_mem _ h | exact fun _ h => List.mem_cons_of_mem _ (List.mem_cons_of_mem _ h)) (r_loadf Tryd.underlying3 rfl rfl (by first | exact .fact (by repeat constructor) | exact .own (by repeat constructor) (by decide) (fun _ => rfl) | exact SlIn.reads (by repeat constructor) (by assumption)) (by assumption) (by rfl)).r ?_
  first | refine m_takep 10 rfl (by kernel_rfl) (by decide) (p_add (j := 1) rfl rfl rfl rfl (by show _ ≤ (9223372036854775807 : Nat); omega)) ?_ | refine m_takep 10 rfl (by kernel_rfl) (by decide) (p_addi rfl rfl (by show (-9223372036854775808 : Int) ≤ _; omega) (by show _ ≤ ((9223372036854775807 : Nat) : Int); omega)) ?_
  first | refine m_take 11 rfl (by kernel_rfl) (by decide) (by first | exact (List.Perm.refl _ : List.Perm _ ([] ++ _)) | exact (List.Perm.refl _ : List.Perm _ ([_] ++ _)) | exact (List.Perm.refl _ : List.Perm _ ([_, _] ++ _)) | exact (List.Perm.refl _ : List.Perm _ ([_, _, _] ++ _)) | exact (List.Perm.refl _ : List.Perm _ ([_, _, _, _] ++ _)) | exact (List.Perm.refl _ : List.Perm _ ([_, _, _, _, _] ++ _))) (by first | exact fun _ h => h | exact fun _ h => List.mem_cons_of_mem _ h | exact fun _ h => List.mem_cons_of_mem _ (List.mem_cons_of_mem _ h)) (r_index Tryd.underlying22 inf_44 rfl rfl rfl (by first | exact .fact (by repeat constructor) | exact .own (by repeat constructor) (by decide) (fun _ => rfl) | exact SlIn.reads (by repeat constructor) (by assumption)) rfl (by omega)).r ?_ | refine m_take 11 rfl (by kernel_rfl) (by decide) (by first | exact (List.Perm.refl _ : List.Perm _ ([] ++ _)) | exact (List.Perm.refl _ : List.Perm _ ([_] ++ _)) | exact (List.Perm.refl _ : List.Perm _ ([_, _] ++ _)) | exact (List.Perm.refl _ : List.Perm _ ([_, _, _] ++ _)) | exact (List.Perm.refl _ : List.Perm _ ([_, _, _, _] ++ _)) | exact (List.Perm.refl _ : List.Perm _ ([_, _, _, _, _] ++ _))) (by first | exact fun _ h => h | exact fun _ h => List.mem_cons_of_mem _ h | exact fun _ h => List.mem_cons_of_mem _ (List.mem_cons_of_mem _ h)) (r_index Tryd.underlying22 inf_44 rfl rfl rfl (by first | exact .fact (by repeat constructor) | exact .own (by repeat constructor) (by decide) (fun _ => rfl) | exact SlIn.reads (by repeat constructor) (by assumption)) rfl (by decide)).r ?_ | refine m_takep 11 rfl (by kernel_rfl) (by decide) (p_indexo Tryd.underlying22 inf_44 rfl rfl rfl (by omega)) ?_
  first | refine m_takep 12 rfl (by kernel_rfl) (by decide) (p_faddr (i := 0) 0 Tryd.underlying44 rfl inf_3 (by decide) rfl rfl) ?_ | refine m_takep 12 rfl (by kernel_rfl) (by decide) (p_faddro (i := 0) 0 Tryd.underlying44 rfl inf_3 (by decide) rfl rfl) ?_
  first | refine m_take 13 rfl (by kernel_rfl) (by decide) (by first | exact (List.Perm.refl _ : List.Perm _ ([] ++ _)) | exact (List.Perm.refl _ : List.Perm _ ([_] ++ _)) | exact (List.Perm.refl _ : List.Perm _ ([_, _] ++ _)) | exact (List.Perm.refl _ : List.Perm _ ([_, _, _] ++ _)) | exact (List.Perm.refl _ : List.Perm _ ([_, _, _, _] ++ _)) | exact (List.Perm.refl _ : List.Perm _ ([_, _, _, _, _] ++ _))) (by first | exact fun _ h => h | exact fun _ h => List.mem_cons_of_mem _ h | exact fun _ h => List.mem_cons_of_mem _ (List.mem_cons_of_mem _ h)) (r_loado Tryd.underlying3 rfl rfl (by repeat constructor) (by rfl)).r ?_ | refine m_take 13 rfl (by kernel_rfl) (by decide) (by first | exact (List.Perm.refl _ : List.Perm _ ([] ++ _)) | exact (List.Perm.refl _ : List.Perm _ ([_] ++ _)) | exact (List.Perm.refl _ : List.Perm _ ([_, _] ++ _)) | exact (List.Perm.refl _ : List.Perm _ ([_, _, _] ++ _)) | exact (List.Perm.refl _ : List.Perm _ ([_, _, _, _] ++ _)) | exact (List.Perm.refl _ : List.Perm _ ([_, _, _, _, _] ++ _))) (by first | exact fun _ h => h | exact fun _ h => List.mem_cons_of_mem _ h | exact fun _ h => List.mem_cons_of_mem _ (List.mem_cons_of_mem _ h)) (r_load1 Tryd.underlying3 rfl rfl (by first | exact .fact (by repeat constructor) | exact .own (by repeat constructor) (by decide) (fun _ => rfl) | exact SlIn.reads (by repeat constructor) (by assumption)) (by first | assumption | rfl) (by rfl)).r ?_ | refine m_take 13 rfl (by kernel_rfl) (by decide) (by first | exact (List.Perm.refl _ : List.Perm _ ([] ++ _)) | exact (List.Perm.refl _ : List.Perm _ ([_] ++ _)) | exact (List.Perm.refl _ : List.Perm _ ([_, _] ++ _)) | exact (List.Perm.refl _ : List.Perm _ ([_, _, _] ++ _)) | exact (List.Perm.refl _ : List.Perm _ ([_, _, _, _] ++ _)) | exact (List.Perm.refl _ : List.Perm _ ([_, _, _, _, _] ++ _))) (by first | exact fun _ h => h | exact fun _ h => List.mem_cons_of_mem _ h | exact fun _ h => List.mem_cons_of_mem _ (List.mem_cons_of_mem _ h)) (r_loadf Tryd.underlying3 rfl rfl (by first | exact .fact (by repeat constructor) | exact .own (by repeat constructor) (by decide) (fun _ => rfl) | exact SlIn.reads (by repeat constructor) (by assumption)) (by assumption) (by rfl)).r ?_
  refine m_run 14 rfl (by kernel_rfl) ?_
  refine l_callo (τ := [iCells b 56 [.slice X.A X.xs.length X.c, .slice X.B X.ins.length X.d, .int .i64 X.sw, .int .i64 (st.at_ : Int), .slice A (st.out).length d, .int .i64 (st.cost)], iSl 3 1 intF A d (st.out)]) (σ := []) (fun _ => .tuple #[]) (fun xx : Option Addr × Nat => [iCells b 56 [.slice X.A X.xs.length X.c, .slice X.B X.ins.length X.d, .int .i64 X.sw, .int .i64 (st.at_ : Int), .slice xx.1 (st.out ++ [x2.o.kind]).length xx.2, .int .i64 (st.cost)], iSl 3 1 intF xx.1 xx.2 (st.out ++ [x2.o.kind])]) (by decide) call_56 rfl (fun w hs => emit_ok b _ _ _ _ _ A d (st.out) x2.o.kind (by first | omega | (simp only [List.length_append, List.length_cons, List.length_nil]; omega)) _ _ w hs) (fun x33 => ?_)
  refine l_nil ?_
  refine m_late rfl ?_
  refine m_done (by kernel_rfl) ?_
  refine c_seq ?_
  refine m_draw [13] mixed ?_
  refine m_takep 0 rfl (by kernel_rfl) (by decide) (p_move rfl) ?_
  refine m_takep 1 rfl (by kernel_rfl) (by decide) (p_move rfl) ?_
  refine m_takep 2 rfl (by kernel_rfl) (by decide) (p_nilp rfl) ?_
  first | refine m_takep 3 rfl (by kernel_rfl) (by decide) (p_faddr (i := 0) 0 Tryd.underlying56 rfl inf_25 (by decide) rfl rfl) ?_ | refine m_takep 3 rfl (by kernel_rfl) (by decide) (p_faddro (i := 0) 0 Tryd.underlying56 rfl inf_25 (by decide) rfl rfl) ?_
  first | refine m_takep 4 rfl (by kernel_rfl) (by decide) (p_faddr (i := 0) 0 Tryd.underlying25 rfl inf_22 (by decide) rfl rfl) ?_ | refine m_takep 4 rfl (by kernel_rfl) (by decide) (p_faddro (i := 0) 0 Tryd.underlying25 rfl inf_22 (by decide) rfl rfl) ?_
  first | refine m_take 5 rfl (by kernel_rfl) (by decide) (by first | exact (List.Perm.refl _ : List.Perm _ ([] ++ _)) | exact (List.Perm.refl _ : List.Perm _ ([_] ++ _)) | exact (List.Perm.refl _ : List.Perm _ ([_, _] ++ _)) | exact (List.Perm.refl _ : List.Perm _ ([_, _, _] ++ _)) | exact (List.Perm.refl _ : List.Perm _ ([_, _, _, _] ++ _)) | exact (List.Perm.refl _ : List.Perm _ ([_, _, _, _, _] ++ _))) (by first | exact fun _ h => h | exact fun _ h => List.mem_cons_of_mem _ h | exact fun _ h => List.mem_cons_of_mem _ (List.mem_cons_of_mem _ h)) (r_loado Tryd.underlying22 rfl rfl (by repeat constructor) (by rfl)).r ?_ | refine m_take 5 rfl (by kernel_rfl) (by decide) (by first | exact (List.Perm.refl _ : List.Perm _ ([] ++ _)) | exact (List.Perm.refl _ : List.Perm _ ([_] ++ _)) | exact (List.Perm.refl _ : List.Perm _ ([_, _] ++ _)) | exact (List.Perm.refl _ : List.Perm _ ([_, _, _] ++ _)) | exact (List.Perm.refl _ : List.Perm _ ([_, _, _, _] ++ _)) | exact (List.Perm.refl _ : List.Perm _ ([_, _, _, _, _] ++ _))) (by first | exact fun _ h => h | exact fun _ h => List.mem_cons_of_mem _ h | exact fun _ h => List.mem_cons_of_mem _ (List.mem_cons_of_mem _ h)) (r_load1 Tryd.underlying22 rfl rfl (by first | exact .fact (by repeat constructor) | exact .own (by repeat constructor) (by decide) (fun _ => rfl) | exact SlIn.reads (by repeat constructor) (by assumption)) (by first | assumption | rfl) (by rfl)).r ?_ | refine m_take 5 rfl (by kernel_rfl) (by decide) (by first | exact (List.Perm.refl _ : List.Perm _ ([] ++ _)) | exact (List.Perm.refl _ : List.Perm _ ([_] ++ _)) | exact (List.Perm.refl _ : List.Perm _ ([_, _] ++ _)) | exact (List.Perm.refl _ : List.Perm _ ([_, _, _] ++ _)) | exact (List.Perm.refl _ : List.Perm _ ([_, _, _, _] ++ _)) | exact (List.Perm.refl _ : List.Perm _ ([_, _, _, _, _] ++ _))) (by first | exact fun _ h => h | exact fun _ h => List.mem_cons_of_mem _ h | exact fun _ h => List.mem_cons_of_mem _ (List.mem_cons_of_mem _ h)) (r_loadf Tryd.underlying22 rfl rfl (by first | exact .fact (by repeat constructor) | exact .own (by repeat constructor) (by decide) (fun _ => rfl) | exact SlIn.reads (by repeat constructor) (by assumption)) (by assumption) (by rfl)).r ?_
  refine m_takep 6 rfl (by kernel_rfl) (by decide) (p_move rfl) ?_
  refine m_takep 7 rfl (by kernel_rfl) (by decide) (p_nilp rfl) ?_
  first | refine m_takep 8 rfl (by kernel_rfl) (by decide) (p_faddr (i := 1) 3 Tryd.underlying56 rfl inf_3 (by decide) rfl rfl) ?_ | refine m_takep 8 rfl (by kernel_rfl) (by decide) (p_faddro (i := 1) 3 Tryd.underlying56 rfl inf_3 (by decide) rfl rfl) ?_
  first | refine m_take 9 rfl (by kernel_rfl) (by decide) (by first | exact (List.Perm.refl _ : List.Perm _ ([] ++ _)) | exact (List.Perm.refl _ : List.Perm _ ([_] ++ _)) | exact (List.Perm.refl _ : List.Perm _ ([_, _] ++ _)) | exact (List.Perm.refl _ : List.Perm _ ([_, _, _] ++ _)) | exact (List.Perm.refl _ : List.Perm _ ([_, _, _, _] ++ _)) | exact (List.Perm.refl _ : List.Perm _ ([_, _, _, _, _] ++ _))) (by first | exact fun _ h => h | exact fun _ h => List.mem_cons_of_mem _ h | exact fun _ h => List.mem_cons_of_mem _ (List.mem_cons_of_mem _ h)) (r_loado Tryd.underlying3 rfl rfl (by repeat constructor) (by rfl)).r ?_ | refine m_take 9 rfl (by kernel_rfl) (by decide) (by first | exact (List.Perm.refl _ : List.Perm _ ([] ++ _)) | exact (List.Perm.refl _ : List.Perm _ ([_] ++ _)) | exact (List.Perm.refl _ : List.Perm _ ([_, _] ++ _)) | exact (List.Perm.refl _ : List.Perm _ ([_, _, _] ++ _)) | exact (List.Perm.refl _ : List.Perm _ ([_, _, _, _] ++ _)) | exact (List.Perm.refl _ : List.Perm _ ([_, _, _, _, _] ++ _))) (by first | exact fun _ h => h | exact fun _ h => List.mem_cons_of_mem _ h | exact fun _ h => List.mem_cons_of_mem _ (List.mem_cons_of_mem _ h)) (r_load1 Tryd.underlying3 rfl rfl (by first | exact .fact (by repeat constructor) | exact .own (by repeat constructor) (by decide) (fun _ => rfl) | exact SlIn.reads (by repeat constructor) (by assumption)) (by first | assumption | rfl) (by rfl)).r ?_ | refine m_take 9 rfl (by kernel_rfl) (by decide) (by first | exact (List.Perm.refl _ : List.Perm _ ([] ++ _)) | exact (List.Perm.refl _ : List.Perm _ ([_] ++ _)) | exact (List.Perm.refl _ : List.Perm _ ([_, _] ++ _)) | exact (List.Perm.refl _ : List.Perm _ ([_, _, _] ++ _)) | exact (List.Perm.refl _ : List.Perm _ ([_, _, _, _] ++ _)) | exact (List.Perm.refl _ : List.Perm _ ([_, _, _, _, _] ++ _))) (by first | exact fun _ h => h | exact fun _ h => List.mem_cons_of_mem _ h | exact fun _ h => List.mem_cons_of_mem _ (List.mem_cons_of_mem _ h)) (r_loadf Tryd.underlying3 rfl rfl (by first | exact .fact (by repeat constructor) | exact .own (by repeat constructor) (by decide) (fun _ => rfl) | exact SlIn.reads (by repeat constructor) (by assumption)) (by assumption) (by rfl)).r ?_
  first | refine m_take 10 rfl (by kernel_rfl) (by decide) (by first | exact (List.Perm.refl _ : List.Perm _ ([] ++ _)) | exact (List.Perm.refl _ : List.Perm _ ([_] ++ _)) | exact (List.Perm.refl _ : List.Perm _ ([_, _] ++ _)) | exact (List.Perm.refl _ : List.Perm _ ([_, _, _] ++ _)) | exact (List.Perm.refl _ : List.Perm _ ([_, _, _, _] ++ _)) | exact (List.Perm.refl _ : List.Perm _ ([_, _, _, _, _] ++ _))) (by first | exact fun _ h => h | exact fun _ h => List.mem_cons_of_mem _ h | exact fun _ h => List.mem_cons_of_mem _ (List.mem_cons_of_mem _ h)) (r_index Tryd.underlying22 inf_44 rfl rfl rfl (by first | exact .fact (by repeat constructor) | exact .own (by repeat constructor) (by decide) (fun _ => rfl) | exact SlIn.reads (by repeat constructor) (by assumption)) rfl (by omega)).r ?_ | refine m_take 10 rfl (by kernel_rfl) (by decide) (by first | exact (List.Perm.refl _ : List.Perm _ ([] ++ _)) | exact (List.Perm.refl _ : List.Perm _ ([_] ++ _)) | exact (List.Perm.refl _ : List.Perm _ ([_, _] ++ _)) | exact (List.Perm.refl _ : List.Perm _ ([_, _, _] ++ _)) | exact (List.Perm.refl _ : List.Perm _ ([_, _, _, _] ++ _)) | exact (List.Perm.refl _ : List.Perm _ ([_, _, _, _, _] ++ _))) (by first | exact fun _ h => h | exact fun _ h => List.mem_cons_of_mem _ h | exact fun _ h => List.mem_cons_of_mem _ (List.mem_cons_of_mem _ h)) (r_index Tryd.underlying22 inf_44 rfl rfl rfl (by first | exact .fact (by repeat constructor) | exact .own (by repeat constructor) (by decide) (fun _ => rfl) | exact SlIn.reads (by repeat constructor) (by assumption)) rfl (by decide)).r ?_ | refine m_takep 10 rfl (by kernel_rfl) (by decide) (p_indexo Tryd.underlying22 inf_44 rfl rfl rfl (by omega)) ?_
  first | refine m_takep 11 rfl (by kernel_rfl) (by decide) (p_faddr (i := 0) 0 Tryd.underlying44 rfl inf_3 (by decide) rfl rfl) ?_ | refine m_takep 11 rfl (by kernel_rfl) (by decide) (p_faddro (i := 0) 0 Tryd.underlying44 rfl inf_3 (by decide) rfl rfl) ?_
  first | refine m_take 12 rfl (by kernel_rfl) (by decide) (by first | exact (List.Perm.refl _ : List.Perm _ ([] ++ _)) | exact (List.Perm.refl _ : List.Perm _ ([_] ++ _)) | exact (List.Perm.refl _ : List.Perm _ ([_, _] ++ _)) | exact (List.Perm.refl _ : List.Perm _ ([_, _, _] ++ _)) | exact (List.Perm.refl _ : List.Perm _ ([_, _, _, _] ++ _)) | exact (List.Perm.refl _ : List.Perm _ ([_, _, _, _, _] ++ _))) (by first | exact fun _ h => h | exact fun _ h => List.mem_cons_of_mem _ h | exact fun _ h => List.mem_cons_of_mem _ (List.mem_cons_of_mem _ h)) (r_loado Tryd.underlying3 rfl rfl (by repeat constructor) (by rfl)).r ?_ | refine m_take 12 rfl (by kernel_rfl) (by decide) (by first | exact (List.Perm.refl _ : List.Perm _ ([] ++ _)) | exact (List.Perm.refl _ : List.Perm _ ([_] ++ _)) | exact (List.Perm.refl _ : List.Perm _ ([_, _] ++ _)) | exact (List.Perm.refl _ : List.Perm _ ([_, _, _] ++ _)) | exact (List.Perm.refl _ : List.Perm _ ([_, _, _, _] ++ _)) | exact (List.Perm.refl _ : List.Perm _ ([_, _, _, _, _] ++ _))) (by first | exact fun _ h => h | exact fun _ h => List.mem_cons_of_mem _ h | exact fun _ h => List.mem_cons_of_mem _ (List.mem_cons_of_mem _ h)) (r_load1 Tryd.underlying3 rfl rfl (by first | exact .fact (by repeat constructor) | exact .own (by repeat constructor) (by decide) (fun _ => rfl) | exact SlIn.reads (by repeat constructor) (by assumption)) (by first | assumption | rfl) (by rfl)).r ?_ | refine m_take 12 rfl (by kernel_rfl) (by decide) (by first | exact (List.Perm.refl _ : List.Perm _ ([] ++ _)) | exact (List.Perm.refl _ : List.Perm _ ([_] ++ _)) | exact (List.Perm.refl _ : List.Perm _ ([_, _] ++ _)) | exact (List.Perm.refl _ : List.Perm _ ([_, _, _] ++ _)) | exact (List.Perm.refl _ : List.Perm _ ([_, _, _, _] ++ _)) | exact (List.Perm.refl _ : List.Perm _ ([_, _, _, _, _] ++ _))) (by first | exact fun _ h => h | exact fun _ h => List.mem_cons_of_mem _ h | exact fun _ h => List.mem_cons_of_mem _ (List.mem_cons_of_mem _ h)) (r_loadf Tryd.underlying3 rfl rfl (by first | exact .fact (by repeat constructor) | exact .own (by repeat constructor) (by decide) (fun _ => rfl) | exact SlIn.reads (by repeat constructor) (by assumption)) (by assumption) (by rfl)).r ?_
  refine m_run 13 rfl (by kernel_rfl) ?_
  refine l_callo (τ := [iCells b 56 [.slice X.A X.xs.length X.c, .slice X.B X.ins.length X.d, .int .i64 X.sw, .int .i64 (st.at_ : Int), .slice x33.1 (st.out ++ [x2.o.kind]).length x33.2, .int .i64 (st.cost)], iSl 3 1 intF x33.1 x33.2 (st.out ++ [x2.o.kind])]) (σ := []) (fun _ => .tuple #[]) (fun xx : Option Addr × Nat => [iCells b 56 [.slice X.A X.xs.length X.c, .slice X.B X.ins.length X.d, .int .i64 X.sw, .int .i64 (st.at_ : Int), .slice xx.1 (st.out ++ [x2.o.kind] ++ [x.o.kind]).length xx.2, .int .i64 (st.cost)], iSl 3 1 intF xx.1 xx.2 (st.out ++ [x2.o.kind] ++ [x.o.kind])]) (by decide) call_56 rfl (fun w hs => emit_ok b _ _ _ _ _ x33.1 x33.2 (st.out ++ [x2.o.kind]) x.o.kind (by first | omega | (simp only [List.length_append, List.length_cons, List.length_nil]; omega)) _ _ w hs) (fun x47 => ?_)
  refine l_nil ?_
  refine m_late rfl ?_
  refine m_done (by kernel_rfl) ?_
  refine c_seq ?_
  refine c_reg ?_
  refine l_q (by decide) (p_move rfl).q ?_
  refine l_q (by decide) (p_nilp rfl).q ?_
  first | refine l_q (by decide) (p_faddr (i := 1) 3 Tryd.underlying56 rfl inf_3 (by decide) rfl rfl).q ?_ | refine l_q (by decide) (p_faddro (i := 1) 3 Tryd.underlying56 rfl inf_3 (by decide) rfl rfl).q ?_
  first | refine l_q (by decide) (r_loado Tryd.underlying3 rfl rfl (by repeat constructor) (by rfl)).q ?_ | refine l_q (by decide) (r_load1 Tryd.underlying3 rfl rfl (by first | exact .fact (by repeat constructor) | exact .own (by repeat constructor) (by decide) (fun _ => rfl) | exact SlIn.reads (by repeat constructor) (by assumption)) (by first | assumption | rfl) (by rfl)).q ?_ | refine l_q (by decide) (r_loadf Tryd.underlying3 rfl rfl (by first | exact .fact (by repeat constructor) | exact .own (by repeat constructor) (by decide) (fun _ => rfl) | exact SlIn.reads (by repeat constructor) (by assumption)) (by assumption) (by rfl)).q ?_
  first | refine l_q (by decide) (p_add (j := 2) rfl rfl rfl rfl (by show _ ≤ (9223372036854775807 : Nat); omega)).q ?_ | refine l_q (by decide) (p_addi rfl rfl (by show (-9223372036854775808 : Int) ≤ _; omega) (by show _ ≤ ((9223372036854775807 : Nat) : Int); omega)).q ?_
  refine l_q (by decide) (p_nilp rfl).q ?_
  first | refine l_q (by decide) (p_faddr (i := 1) 3 Tryd.underlying56 rfl inf_3 (by decide) rfl rfl).q ?_ | refine l_q (by decide) (p_faddro (i := 1) 3 Tryd.underlying56 rfl inf_3 (by decide) rfl rfl).q ?_
  first | (refine l_store inf_3 rfl rfl rfl rfl (by first | decide | exact Nat.le_of_ble_eq_true rfl | (simp; done) | omega | (simp only [Nat.mul_one]; assumption)) ?_) | (refine l_perm (front1 _ _ _) ?_; refine l_store inf_3 rfl rfl rfl rfl (by first | decide | exact Nat.le_of_ble_eq_true rfl | (simp; done) | omega | (simp only [Nat.mul_one]; assumption)) ?_) | (refine l_perm (front2 _ _ _ _) ?_; refine l_store inf_3 rfl rfl rfl rfl (by first | decide | exact Nat.le_of_ble_eq_true rfl | (simp; done) | omega | (simp only [Nat.mul_one]; assumption)) ?_) | (refine l_perm (front3 _ _ _ _ _) ?_; refine l_store inf_3 rfl rfl rfl rfl (by first | decide | exact Nat.le_of_ble_eq_true rfl | (simp; done) | omega | (simp only [Nat.mul_one]; assumption)) ?_) | (refine l_perm (front4 _ _ _ _ _ _) ?_; refine l_store inf_3 rfl rfl rfl rfl (by first | decide | exact Nat.le_of_ble_eq_true rfl | (simp; done) | omega | (simp only [Nat.mul_one]; assumption)) ?_)
  refine l_nil ?_
  refine c_seq ?_
  refine m_draw [13] mixed ?_
  refine m_takep 0 rfl (by kernel_rfl) (by decide) (p_move rfl) ?_
  refine m_takep 1 rfl (by kernel_rfl) (by decide) (p_move rfl) ?_
  refine m_takep 2 rfl (by kernel_rfl) (by decide) (p_nilp rfl) ?_
  first | refine m_takep 3 rfl (by kernel_rfl) (by decide) (p_faddr (i := 3) 5 Tryd.underlying56 rfl inf_3 (by decide) rfl rfl) ?_ | refine m_takep 3 rfl (by kernel_rfl) (by decide) (p_faddro (i := 3) 5 Tryd.underlying56 rfl inf_3 (by decide) rfl rfl) ?_
  first | refine m_take 4 rfl (by kernel_rfl) (by decide) (by first | exact (List.Perm.refl _ : List.Perm _ ([] ++ _)) | exact (List.Perm.refl _ : List.Perm _ ([_] ++ _)) | exact (List.Perm.refl _ : List.Perm _ ([_, _] ++ _)) | exact (List.Perm.refl _ : List.Perm _ ([_, _, _] ++ _)) | exact (List.Perm.refl _ : List.Perm _ ([_, _, _, _] ++ _)) | exact (List.Perm.refl _ : List.Perm _ ([_, _, _, _, _] ++ _))) (by first | exact fun _ h => h | exact fun _ h => List.mem_cons_of_mem _ h | exact fun _ h => List.mem_cons_of_mem _ (List.mem_cons_of_mem _ h)) (r_loado Tryd.underlying3 rfl rfl (by repeat constructor) (by rfl)).r ?_ | refine m_take 4 rfl (by kernel_rfl) (by decide) (by first | exact (List.Perm.refl _ : List.Perm _ ([] ++ _)) | exact (List.Perm.refl _ : List.Perm _ ([_] ++ _)) | exact (List.Perm.refl _ : List.Perm _ ([_, _] ++ _)) | exact (List.Perm.refl _ : List.Perm _ ([_, _, _] ++ _)) | exact (List.Perm.refl _ : List.Perm _ ([_, _, _, _] ++ _)) | exact (List.Perm.refl _ : List.Perm _ ([_, _, _, _, _] ++ _))) (by first | exact fun _ h => h | exact fun _ h => List.mem_cons_of_mem _ h | exact fun _ h => List.mem_cons_of_mem _ (List.mem_cons_of_mem _ h)) (r_load1 Tryd.underlying3 rfl rfl (by first | exact .fact (by repeat constructor) | exact .own (by repeat constructor) (by decide) (fun _ => rfl) | exact SlIn.reads (by repeat constructor) (by assumption)) (by first | assumption | rfl) (by rfl)).r ?_ | refine m_take 4 rfl (by kernel_rfl) (by decide) (by first | exact (List.Perm.refl _ : List.Perm _ ([] ++ _)) | exact (List.Perm.refl _ : List.Perm _ ([_] ++ _)) | exact (List.Perm.refl _ : List.Perm _ ([_, _] ++ _)) | exact (List.Perm.refl _ : List.Perm _ ([_, _, _] ++ _)) | exact (List.Perm.refl _ : List.Perm _ ([_, _, _, _] ++ _)) | exact (List.Perm.refl _ : List.Perm _ ([_, _, _, _, _] ++ _))) (by first | exact fun _ h => h | exact fun _ h => List.mem_cons_of_mem _ h | exact fun _ h => List.mem_cons_of_mem _ (List.mem_cons_of_mem _ h)) (r_loadf Tryd.underlying3 rfl rfl (by first | exact .fact (by repeat constructor) | exact .own (by repeat constructor) (by decide) (fun _ => rfl) | exact SlIn.reads (by repeat constructor) (by assumption)) (by assumption) (by rfl)).r ?_
  refine m_takep 5 rfl (by kernel_rfl) (by decide) (p_move rfl) ?_
  refine m_takep 6 rfl (by kernel_rfl) (by decide) (p_nilp rfl) ?_
  first | refine m_takep 7 rfl (by kernel_rfl) (by decide) (p_faddr (i := 0) 0 Tryd.underlying56 rfl inf_25 (by decide) rfl rfl) ?_ | refine m_takep 7 rfl (by kernel_rfl) (by decide) (p_faddro (i := 0) 0 Tryd.underlying56 rfl inf_25 (by decide) rfl rfl) ?_
  first | refine m_takep 8 rfl (by kernel_rfl) (by decide) (p_faddr (i := 2) 2 Tryd.underlying25 rfl inf_3 (by decide) rfl rfl) ?_ | refine m_takep 8 rfl (by kernel_rfl) (by decide) (p_faddro (i := 2) 2 Tryd.underlying25 rfl inf_3 (by decide) rfl rfl) ?_
  first | refine m_take 9 rfl (by kernel_rfl) (by decide) (by first | exact (List.Perm.refl _ : List.Perm _ ([] ++ _)) | exact (List.Perm.refl _ : List.Perm _ ([_] ++ _)) | exact (List.Perm.refl _ : List.Perm _ ([_, _] ++ _)) | exact (List.Perm.refl _ : List.Perm _ ([_, _, _] ++ _)) | exact (List.Perm.refl _ : List.Perm _ ([_, _, _, _] ++ _)) | exact (List.Perm.refl _ : List.Perm _ ([_, _, _, _, _] ++ _))) (by first | exact fun _ h => h | exact fun _ h => List.mem_cons_of_mem _ h | exact fun _ h => List.mem_cons_of_mem _ (List.mem_cons_of_mem _ h)) (r_loado Tryd.underlying3 rfl rfl (by repeat constructor) (by rfl)).r ?_ | refine m_take 9 rfl (by kernel_rfl) (by decide) (by first | exact (List.Perm.refl _ : List.Perm _ ([] ++ _)) | exact (List.Perm.refl _ : List.Perm _ ([_] ++ _)) | exact (List.Perm.refl _ : List.Perm _ ([_, _] ++ _)) | exact (List.Perm.refl _ : List.Perm _ ([_, _, _] ++ _)) | exact (List.Perm.refl _ : List.Perm _ ([_, _, _, _] ++ _)) | exact (List.Perm.refl _ : List.Perm _ ([_, _, _, _, _] ++ _))) (by first | exact fun _ h => h | exact fun _ h => List.mem_cons_of_mem _ h | exact fun _ h => List.mem_cons_of_mem _ (List.mem_cons_of_mem _ h)) (r_load1 Tryd.underlying3 rfl rfl (by first | exact .fact (by repeat constructor) | exact .own (by repeat constructor) (by decide) (fun _ => rfl) | exact SlIn.reads (by repeat constructor) (by assumption)) (by first | assumption | rfl) (by rfl)).r ?_ | refine m_take 9 rfl (by kernel_rfl) (by decide) (by first | exact (List.Perm.refl _ : List.Perm _ ([] ++ _)) | exact (List.Perm.refl _ : List.Perm _ ([_] ++ _)) | exact (List.Perm.refl _ : List.Perm _ ([_, _] ++ _)) | exact (List.Perm.refl _ : List.Perm _ ([_, _, _] ++ _)) | exact (List.Perm.refl _ : List.Perm _ ([_, _, _, _] ++ _)) | exact (List.Perm.refl _ : List.Perm _ ([_, _, _, _, _] ++ _))) (by first | exact fun _ h => h | exact fun _ h => List.mem_cons_of_mem _ h | exact fun _ h => List.mem_cons_of_mem _ (List.mem_cons_of_mem _ h)) (r_loadf Tryd.underlying3 rfl rfl (by first | exact .fact (by repeat constructor) | exact .own (by repeat constructor) (by decide) (fun _ => rfl) | exact SlIn.reads (by repeat constructor) (by assumption)) (by assumption) (by rfl)).r ?_
  refine m_run 10 rfl (by kernel_rfl) ?_
  refine l_q (by decide) (q_call call_36 rfl (fun w hs => add_ok st.cost X.sw (by omega) (by omega) (by omega) (by omega) w)) ?_
  refine l_nil ?_
  refine m_next _ (by first | exact (List.Perm.refl _ : List.Perm _ ([] ++ _)) | exact (List.Perm.refl _ : List.Perm _ ([_] ++ _)) | exact (List.Perm.refl _ : List.Perm _ ([_, _] ++ _)) | exact (List.Perm.refl _ : List.Perm _ ([_, _, _] ++ _)) | exact (List.Perm.refl _ : List.Perm _ ([_, _, _, _] ++ _)) | exact (List.Perm.refl _ : List.Perm _ ([_, _, _, _, _] ++ _))) (by first | exact fun _ h => h | exact fun _ h => List.mem_cons_of_mem _ h | exact fun _ h => List.mem_cons_of_mem _ (List.mem_cons_of_mem _ h)) ?_
  refine m_takep 11 rfl (by kernel_rfl) (by decide) (p_nilp rfl) ?_
  first | refine m_takep 12 rfl (by kernel_rfl) (by decide) (p_faddr (i := 3) 5 Tryd.underlying56 rfl inf_3 (by decide) rfl rfl) ?_ | refine m_takep 12 rfl (by kernel_rfl) (by decide) (p_faddro (i := 3) 5 Tryd.underlying56 rfl inf_3 (by decide) rfl rfl) ?_
  refine m_run 13 rfl (by kernel_rfl) ?_
  first | (refine l_store inf_3 rfl rfl rfl rfl (by first | decide | exact Nat.le_of_ble_eq_true rfl | (simp; done) | omega | (simp only [Nat.mul_one]; assumption)) ?_) | (refine l_perm (front1 _ _ _) ?_; refine l_store inf_3 rfl rfl rfl rfl (by first | decide | exact Nat.le_of_ble_eq_true rfl | (simp; done) | omega | (simp only [Nat.mul_one]; assumption)) ?_) | (refine l_perm (front2 _ _ _ _) ?_; refine l_store inf_3 rfl rfl rfl rfl (by first | decide | exact Nat.le_of_ble_eq_true rfl | (simp; done) | omega | (simp only [Nat.mul_one]; assumption)) ?_) | (refine l_perm (front3 _ _ _ _ _) ?_; refine l_store inf_3 rfl rfl rfl rfl (by first | decide | exact Nat.le_of_ble_eq_true rfl | (simp; done) | omega | (simp only [Nat.mul_one]; assumption)) ?_) | (refine l_perm (front4 _ _ _ _ _ _) ?_; refine l_store inf_3 rfl rfl rfl rfl (by first | decide | exact Nat.le_of_ble_eq_true rfl | (simp; done) | omega | (simp only [Nat.mul_one]; assumption)) ?_)
  refine l_nil ?_
  refine m_late rfl ?_
  refine m_done (by kernel_rfl) ?_
  refine c_seq ?_
  refine c_reg ?_
  refine l_q (by decide) (p_assign rfl).q ?_
  refine l_nil ?_
  refine c_ret ?_
  refine c_ret1 rfl rfl (fun w hs => ?_)
  have hex := exec_swap (st := st) (op := ⟨4, t⟩) rfl hin.1 hsw
  exact ⟨x47, _, by rw [hex]; rfl, by rw [hex]; exact (by rw [show st.out ++ [x2.o.kind, x.o.kind] = st.out ++ [x2.o.kind] ++ [x.o.kind] by simp]; exact hs)⟩
end Go.Proofs.YtlefheiohblgdaaDoor
