/- The walks of textdiff, sixth part; conditions: lengths. -/
import Derived.Test.YtnkmemoagimddaaWalksE
namespace Go.Proofs.Ytnkmemoagimddaa
open Go Go.Fx Go.Proofs

abbrev fitsP (l : List UInt8) (x y : Int) : Prop := 0 ≤ x ∧ x ≤ (l.length : Int) ∧ 0 ≤ y ∧ y ≤ (l.length : Int) - x
def edI (x y : Int) (s : List UInt8) : List Value := [.int .i64 x, .int .i64 y, str s]
theorem take_all (l : List UInt8) (i j : Nat) : ((l.drop i).take (j - i)) = (l.drop i).take (j - i) := rfl
theorem tog_step {a : List UInt8} {p : Nat} {e : Td.E} {l : List Td.E} {r : List UInt8} (h : Td.tog a p (e :: l) = some r) : p ≤ e.at_ ∧ e.at_ ≤ a.length ∧ e.del ≤ a.length - e.at_ ∧ ∃ s, Td.tog a (e.at_ + e.del) l = some s ∧ r = (a.drop p).take (e.at_ - p) ++ e.ins ++ s := by
  unfold Td.tog at h
  split at h
  · cases h
  · rename_i hc
    obtain ⟨s, hs, hr⟩ := Option.map_eq_some_iff.1 h
    exact ⟨by omega, by omega, by omega, s, hs, hr.symm⟩
theorem distance_as (a b : List UInt8) (n : Nat) (h : Td.D a b = n) (hal : a.length ≤ 1000) (hbl : b.length ≤ 1000) (w : World) : Calls Try.prog 12 #[str a, str b] w (Ret fun v w' => v = .int .i64 (n : Int) ∧ Ext [] w w') := by
  subst h; exact distance_ok a b hal hbl w
theorem diff_as (a b : List UInt8) (l : List Td.E) (h : Td.diff a b = l) (hal : a.length ≤ 1000) (hbl : b.length ≤ 1000) (w : World) : Calls Try.prog 15 #[str a, str b] w (Ret fun v w' => ∃ x : Option Addr × Nat, v = .slice x.1 l.length x.2 ∧ Sl 3 edF x.1 l w' ∧ Dep w.heap.size w'.heap.size (Sl 3 edF x.1 l) ∧ Ext [] w w') := by
  subst h; exact diff_ok a b hal hbl w
theorem hull_as (a b : List UInt8) (e : Td.E) (h : Td.hull a b = e) (hal : a.length ≤ 1000) (hbl : b.length ≤ 1000) (w : World) : Calls Try.prog 18 #[str a, str b] w (Ret fun v w' => v = .agg (edF e).toArray ∧ Ext [] w w') := by
  subst h; exact hull_ok a b hal hbl w
theorem same_true (A B : Option Addr) (c d : Nat) (l m : List Td.E) (h : l = m) (hl : l.length < 1000000) (w : World) (hq : Sl 3 edF A l w) (hp : Sl 3 edF B m w) : Calls Try.prog 14 #[.slice A l.length c, .slice B m.length d] w (Ret fun v w' => v = .bool true ∧ Ext [] w w') := by
  have := same_ok A B c d l m hl w hq hp
  rw [decide_eq_true h] at this; exact this
theorem eq_ed {L : Slots} {ty t2 : TypeId} {x y : Operand} {e e' : Td.E} (hx : ev L x = some (.agg (edF e).toArray)) (hy : ev L y = some (.agg (edF e').toArray)) : Pure Try.prog (.binOp .eql 30 x y t2) ty L (.bool (decide (e = e'))) := by
  have h : ∀ w, (Op.equalIn 10000 30 (.agg (edF e).toArray) (.agg (edF e').toArray)).run Try.prog w = .ok (decide (e = e')) w := fun w => by
    rw [eqf_struct Try.underlying30 (by kernel_rfl) w]
    rw [eqf_one (by decide) Try.underlying3 rfl rfl rfl w (eqv_int Try.underlying3 w), eqf_one (by decide) Try.underlying3 rfl rfl rfl w (eqv_int Try.underlying3 w), eqf_one (by decide) Try.underlying9 rfl rfl rfl w (eqv_str Try.underlying9 w), eqf_nil]
    obtain ⟨a, d, s⟩ := e
    obtain ⟨a', d', s'⟩ := e'
    simp only [Td.E.mk.injEq]
    by_cases h1 : a = a'
    · subst h1
      rw [if_pos rfl]
      by_cases h2 : d = d'
      · subst h2
        rw [if_pos rfl]
        by_cases h3 : s = s'
        · subst h3; simp
        · rw [if_neg h3]; simp [h3]
      · rw [if_neg (by omega)]; simp [h2]
    · rw [if_neg (by omega)]; simp [h1]
  exact p_eqst (P := Try.prog) (ty := ty) (t2 := t2) (by kernel_rfl) hx hy h
theorem ed_cells (e : Td.E) : Value.agg #[.int .i64 (e.at_ : Int), .int .i64 (e.del : Int), str e.ins] = .agg (edF e).toArray := rfl
theorem call_24 : Callable Try.prog 24 := ⟨_, Try.func24, by kernel_rfl, rfl⟩
theorem fits_ok (l : List UInt8) (x y : Int) (s : List UInt8) (hl : l.length ≤ 140737488355328) (w : World) :
    Calls Try.prog 24 #[str l, .agg #[.int .i64 x, .int .i64 y, str s]] w (Ret fun v w' => v = .bool (decide (fitsP l x y)) ∧ Ext [] w w') := by
  refine calls_fx (l := [str l, .agg #[.int .i64 x, .int .i64 y, str s]]) Try.func24 rfl Try.ntmps24 (Nat.le_of_ble_eq_true rfl) (St.start w) ?_
  refine c_seq ?_
  refine c_reg ?_
  refine l_box (by decide) rfl _ rfl (fun b3 => ?_)
  refine l_q (by decide) (p_assign rfl).q ?_
  refine l_nil ?_
  refine c_seq ?_
  refine c_meetn (S := Unit) (fun zs => True) (fun zs => [(4, .bool (decide (fitsP l x y)))]) (fun zs => [iCells b3 30 [.int .i64 x, .int .i64 y, str s]]) (fun zs => []) ?_ ?_
  · skip
    refine c_reg ?_
    first | refine l_q (by decide) (p_faddr (i := 0) 0 Try.underlying30 rfl inf_3 (by decide) rfl rfl).q ?_ | refine l_q (by decide) (p_faddro (i := 0) 0 Try.underlying30 rfl inf_3 (by decide) rfl rfl).q ?_
    first | refine l_q (by decide) (r_loado Try.underlying3 rfl rfl (by repeat (first | exact List.Mem.head _ | apply List.Mem.tail)) (by rfl)).q ?_ | refine l_q (by decide) (r_load1 Try.underlying3 rfl rfl (by first | exact .fact (by repeat (first | exact List.Mem.head _ | apply List.Mem.tail)) | exact .own (by repeat (first | exact List.Mem.head _ | apply List.Mem.tail)) (by decide) (fun _ => rfl)) (by first | assumption | rfl) (by rfl)).q ?_ | refine l_q (by decide) (r_loadf Try.underlying3 rfl rfl (by first | exact .fact (by repeat (first | exact List.Mem.head _ | apply List.Mem.tail)) | exact .own (by repeat (first | exact List.Mem.head _ | apply List.Mem.tail)) (by decide) (fun _ => rfl)) (by assumption) (by rfl)).q ?_
    first | refine l_q (by decide) (p_geq (j := 0) rfl rfl rfl rfl).q ?_ | refine l_q (by decide) (p_geqi rfl rfl).q ?_
    refine l_q (by decide) (p_move rfl).q ?_
    first | refine l_splitd (t := 8) rfl (fun h8 => ?_) (fun h8 => ?_) | refine l_splitb (t := 8) rfl (fun h8 => ?_) (fun h8 => ?_)
    · skip
      first | refine l_g (j := 3) rfl rfl (by decide) (p_faddr (i := 0) 0 Try.underlying30 rfl inf_3 (by decide) rfl rfl).q ?_ | refine l_g (j := 3) rfl rfl (by decide) (p_faddro (i := 0) 0 Try.underlying30 rfl inf_3 (by decide) rfl rfl).q ?_
      first | refine l_g (j := 3) rfl rfl (by decide) (r_loado Try.underlying3 rfl rfl (by repeat (first | exact List.Mem.head _ | apply List.Mem.tail)) (by rfl)).q ?_ | refine l_g (j := 3) rfl rfl (by decide) (r_load1 Try.underlying3 rfl rfl (by first | exact .fact (by repeat (first | exact List.Mem.head _ | apply List.Mem.tail)) | exact .own (by repeat (first | exact List.Mem.head _ | apply List.Mem.tail)) (by decide) (fun _ => rfl)) (by first | assumption | rfl) (by rfl)).q ?_ | refine l_g (j := 3) rfl rfl (by decide) (r_loadf Try.underlying3 rfl rfl (by first | exact .fact (by repeat (first | exact List.Mem.head _ | apply List.Mem.tail)) | exact .own (by repeat (first | exact List.Mem.head _ | apply List.Mem.tail)) (by decide) (fun _ => rfl)) (by assumption) (by rfl)).q ?_
      refine l_g (j := 3) rfl rfl (by decide) (p_move rfl).q ?_
      refine l_g (j := 3) rfl rfl (by decide) (p_len_str Try.underlying9 rfl).q ?_
      first | refine l_g (j := 3) rfl rfl (by decide) (p_leq rfl rfl rfl rfl).q ?_ | refine l_g (j := 3) rfl rfl (by decide) (p_leqi rfl rfl).q ?_
      refine l_q (by decide) (p_pick rfl rfl).q ?_
      refine l_q (by decide) (p_move rfl).q ?_
      first | refine l_splitd (t := 15) rfl (fun h15 => ?_) (fun h15 => ?_) | refine l_splitb (t := 15) rfl (fun h15 => ?_) (fun h15 => ?_)
      · skip
        first | refine l_g (j := 10) rfl rfl (by decide) (p_faddr (i := 1) 1 Try.underlying30 rfl inf_3 (by decide) rfl rfl).q ?_ | refine l_g (j := 10) rfl rfl (by decide) (p_faddro (i := 1) 1 Try.underlying30 rfl inf_3 (by decide) rfl rfl).q ?_
        first | refine l_g (j := 10) rfl rfl (by decide) (r_loado Try.underlying3 rfl rfl (by repeat (first | exact List.Mem.head _ | apply List.Mem.tail)) (by rfl)).q ?_ | refine l_g (j := 10) rfl rfl (by decide) (r_load1 Try.underlying3 rfl rfl (by first | exact .fact (by repeat (first | exact List.Mem.head _ | apply List.Mem.tail)) | exact .own (by repeat (first | exact List.Mem.head _ | apply List.Mem.tail)) (by decide) (fun _ => rfl)) (by first | assumption | rfl) (by rfl)).q ?_ | refine l_g (j := 10) rfl rfl (by decide) (r_loadf Try.underlying3 rfl rfl (by first | exact .fact (by repeat (first | exact List.Mem.head _ | apply List.Mem.tail)) | exact .own (by repeat (first | exact List.Mem.head _ | apply List.Mem.tail)) (by decide) (fun _ => rfl)) (by assumption) (by rfl)).q ?_
        first | refine l_g (j := 10) rfl rfl (by decide) (p_geq (j := 0) rfl rfl rfl rfl).q ?_ | refine l_g (j := 10) rfl rfl (by decide) (p_geqi rfl rfl).q ?_
        refine l_q (by decide) (p_pick rfl rfl).q ?_
        refine l_q (by decide) (p_move rfl).q ?_
        first | refine l_splitd (t := 20) rfl (fun h20 => ?_) (fun h20 => ?_) | refine l_splitb (t := 20) rfl (fun h20 => ?_) (fun h20 => ?_)
        · skip
          first | refine l_g (j := 15) rfl rfl (by decide) (p_faddr (i := 1) 1 Try.underlying30 rfl inf_3 (by decide) rfl rfl).q ?_ | refine l_g (j := 15) rfl rfl (by decide) (p_faddro (i := 1) 1 Try.underlying30 rfl inf_3 (by decide) rfl rfl).q ?_
          first | refine l_g (j := 15) rfl rfl (by decide) (r_loado Try.underlying3 rfl rfl (by repeat (first | exact List.Mem.head _ | apply List.Mem.tail)) (by rfl)).q ?_ | refine l_g (j := 15) rfl rfl (by decide) (r_load1 Try.underlying3 rfl rfl (by first | exact .fact (by repeat (first | exact List.Mem.head _ | apply List.Mem.tail)) | exact .own (by repeat (first | exact List.Mem.head _ | apply List.Mem.tail)) (by decide) (fun _ => rfl)) (by first | assumption | rfl) (by rfl)).q ?_ | refine l_g (j := 15) rfl rfl (by decide) (r_loadf Try.underlying3 rfl rfl (by first | exact .fact (by repeat (first | exact List.Mem.head _ | apply List.Mem.tail)) | exact .own (by repeat (first | exact List.Mem.head _ | apply List.Mem.tail)) (by decide) (fun _ => rfl)) (by assumption) (by rfl)).q ?_
          refine l_g (j := 15) rfl rfl (by decide) (p_move rfl).q ?_
          refine l_g (j := 15) rfl rfl (by decide) (p_len_str Try.underlying9 rfl).q ?_
          first | refine l_g (j := 15) rfl rfl (by decide) (p_faddr (i := 0) 0 Try.underlying30 rfl inf_3 (by decide) rfl rfl).q ?_ | refine l_g (j := 15) rfl rfl (by decide) (p_faddro (i := 0) 0 Try.underlying30 rfl inf_3 (by decide) rfl rfl).q ?_
          first | refine l_g (j := 15) rfl rfl (by decide) (r_loado Try.underlying3 rfl rfl (by repeat (first | exact List.Mem.head _ | apply List.Mem.tail)) (by rfl)).q ?_ | refine l_g (j := 15) rfl rfl (by decide) (r_load1 Try.underlying3 rfl rfl (by first | exact .fact (by repeat (first | exact List.Mem.head _ | apply List.Mem.tail)) | exact .own (by repeat (first | exact List.Mem.head _ | apply List.Mem.tail)) (by decide) (fun _ => rfl)) (by first | assumption | rfl) (by rfl)).q ?_ | refine l_g (j := 15) rfl rfl (by decide) (r_loadf Try.underlying3 rfl rfl (by first | exact .fact (by repeat (first | exact List.Mem.head _ | apply List.Mem.tail)) | exact .own (by repeat (first | exact List.Mem.head _ | apply List.Mem.tail)) (by decide) (fun _ => rfl)) (by assumption) (by rfl)).q ?_
          first | refine l_g (j := 15) rfl rfl (by decide) (p_sub rfl rfl rfl rfl (by omega) (by show _ ≤ (9223372036854775807 : Nat); omega)).q ?_ | refine l_g (j := 15) rfl rfl (by decide) (p_subi rfl rfl (by show (-9223372036854775808 : Int) ≤ _; omega) (by show _ ≤ ((9223372036854775807 : Nat) : Int); omega)).q ?_
          first | refine l_g (j := 15) rfl rfl (by decide) (p_leq rfl rfl rfl rfl).q ?_ | refine l_g (j := 15) rfl rfl (by decide) (p_leqi rfl rfl).q ?_
          refine l_q (by decide) (p_pick rfl rfl).q ?_
          refine l_q (by decide) (p_assign rfl).q ?_
          refine l_nil ?_
          refine c_join (()) ?inv ?sub ?perm ?facts
          case sub => exact ⟨(by first | rfl | exact congrArg (fun b => some (Value.bool b)) (decide_eq_true (by omega)).symm | exact congrArg (fun b => some (Value.bool b)) (decide_eq_false (by omega)).symm | exact congrArg (fun b => some (Value.bool b)) (decide_eq_decide.2 (by omega))), trivial⟩
          case perm =>
            exact .refl _
          case facts => exact fun _ h => h
          case inv =>
            trivial
        · skip
          refine l_off (j := 15) rfl rfl (by first | (simp; done) | (simp [undef]; done)) (by decide) ?_
          refine l_off (j := 15) rfl rfl (by first | (simp; done) | (simp [undef]; done)) (by decide) ?_
          refine l_off (j := 15) rfl rfl (by first | (simp; done) | (simp [undef]; done)) (by decide) ?_
          refine l_off (j := 15) rfl rfl (by first | (simp; done) | (simp [undef]; done)) (by decide) ?_
          refine l_off (j := 15) rfl rfl (by first | (simp; done) | (simp [undef]; done)) (by decide) ?_
          refine l_off (j := 15) rfl rfl (by first | (simp; done) | (simp [undef]; done)) (by decide) ?_
          refine l_off (j := 15) rfl rfl (by first | (simp; done) | (simp [undef]; done)) (by decide) ?_
          refine l_off (j := 15) rfl rfl (by first | (simp; done) | (simp [undef]; done)) (by decide) ?_
          refine l_q (by decide) (p_pick rfl rfl).q ?_
          refine l_q (by decide) (p_assign rfl).q ?_
          refine l_nil ?_
          refine c_join (()) ?inv ?sub ?perm ?facts
          case sub => exact ⟨(by first | rfl | exact congrArg (fun b => some (Value.bool b)) (decide_eq_true (by omega)).symm | exact congrArg (fun b => some (Value.bool b)) (decide_eq_false (by omega)).symm | exact congrArg (fun b => some (Value.bool b)) (decide_eq_decide.2 (by omega))), trivial⟩
          case perm =>
            exact .refl _
          case facts => exact fun _ h => h
          case inv =>
            trivial
      · skip
        refine l_off (j := 10) rfl rfl (by first | (simp; done) | (simp [undef]; done)) (by decide) ?_
        refine l_off (j := 10) rfl rfl (by first | (simp; done) | (simp [undef]; done)) (by decide) ?_
        refine l_off (j := 10) rfl rfl (by first | (simp; done) | (simp [undef]; done)) (by decide) ?_
        refine l_q (by decide) (p_pick rfl rfl).q ?_
        refine l_q (by decide) (p_move rfl).q ?_
        refine l_off (j := 15) rfl rfl (by first | (simp; done) | (simp [undef]; done)) (by decide) ?_
        refine l_off (j := 15) rfl rfl (by first | (simp; done) | (simp [undef]; done)) (by decide) ?_
        refine l_off (j := 15) rfl rfl (by first | (simp; done) | (simp [undef]; done)) (by decide) ?_
        refine l_off (j := 15) rfl rfl (by first | (simp; done) | (simp [undef]; done)) (by decide) ?_
        refine l_off (j := 15) rfl rfl (by first | (simp; done) | (simp [undef]; done)) (by decide) ?_
        refine l_off (j := 15) rfl rfl (by first | (simp; done) | (simp [undef]; done)) (by decide) ?_
        refine l_off (j := 15) rfl rfl (by first | (simp; done) | (simp [undef]; done)) (by decide) ?_
        refine l_off (j := 15) rfl rfl (by first | (simp; done) | (simp [undef]; done)) (by decide) ?_
        refine l_q (by decide) (p_pick rfl rfl).q ?_
        refine l_q (by decide) (p_assign rfl).q ?_
        refine l_nil ?_
        refine c_join (()) ?inv ?sub ?perm ?facts
        case sub => exact ⟨(by first | rfl | exact congrArg (fun b => some (Value.bool b)) (decide_eq_true (by omega)).symm | exact congrArg (fun b => some (Value.bool b)) (decide_eq_false (by omega)).symm | exact congrArg (fun b => some (Value.bool b)) (decide_eq_decide.2 (by omega))), trivial⟩
        case perm =>
          exact .refl _
        case facts => exact fun _ h => h
        case inv =>
          trivial
    · skip
      refine l_off (j := 3) rfl rfl (by first | (simp; done) | (simp [undef]; done)) (by decide) ?_
      refine l_off (j := 3) rfl rfl (by first | (simp; done) | (simp [undef]; done)) (by decide) ?_
      refine l_off (j := 3) rfl rfl (by first | (simp; done) | (simp [undef]; done)) (by decide) ?_
      refine l_off (j := 3) rfl rfl (by first | (simp; done) | (simp [undef]; done)) (by decide) ?_
      refine l_off (j := 3) rfl rfl (by first | (simp; done) | (simp [undef]; done)) (by decide) ?_
      refine l_q (by decide) (p_pick rfl rfl).q ?_
      refine l_q (by decide) (p_move rfl).q ?_
      refine l_off (j := 10) rfl rfl (by first | (simp; done) | (simp [undef]; done)) (by decide) ?_
      refine l_off (j := 10) rfl rfl (by first | (simp; done) | (simp [undef]; done)) (by decide) ?_
      refine l_off (j := 10) rfl rfl (by first | (simp; done) | (simp [undef]; done)) (by decide) ?_
      refine l_q (by decide) (p_pick rfl rfl).q ?_
      refine l_q (by decide) (p_move rfl).q ?_
      refine l_off (j := 15) rfl rfl (by first | (simp; done) | (simp [undef]; done)) (by decide) ?_
      refine l_off (j := 15) rfl rfl (by first | (simp; done) | (simp [undef]; done)) (by decide) ?_
      refine l_off (j := 15) rfl rfl (by first | (simp; done) | (simp [undef]; done)) (by decide) ?_
      refine l_off (j := 15) rfl rfl (by first | (simp; done) | (simp [undef]; done)) (by decide) ?_
      refine l_off (j := 15) rfl rfl (by first | (simp; done) | (simp [undef]; done)) (by decide) ?_
      refine l_off (j := 15) rfl rfl (by first | (simp; done) | (simp [undef]; done)) (by decide) ?_
      refine l_off (j := 15) rfl rfl (by first | (simp; done) | (simp [undef]; done)) (by decide) ?_
      refine l_off (j := 15) rfl rfl (by first | (simp; done) | (simp [undef]; done)) (by decide) ?_
      refine l_q (by decide) (p_pick rfl rfl).q ?_
      refine l_q (by decide) (p_assign rfl).q ?_
      refine l_nil ?_
      refine c_join (()) ?inv ?sub ?perm ?facts
      case sub => exact ⟨(by first | rfl | exact congrArg (fun b => some (Value.bool b)) (decide_eq_true (by omega)).symm | exact congrArg (fun b => some (Value.bool b)) (decide_eq_false (by omega)).symm | exact congrArg (fun b => some (Value.bool b)) (decide_eq_decide.2 (by omega))), trivial⟩
      case perm =>
        exact .refl _
      case facts => exact fun _ h => h
      case inv =>
        trivial
  rintro uu hmeet
  show Cont _ _ _ _ [(4, .bool (decide (fitsP l x y)))] ([iCells b3 30 [.int .i64 x, .int .i64 y, str s]]) []
  refine c_ret ?_
  refine c_ret1 rfl rfl (fun w hs => ?_)
  exact ⟨rfl, hs.ext⟩

theorem apply_ok (l : List UInt8) (x y : Int) (s : List UInt8) (hl : l.length ≤ 140737488355328) (hsl : s.length ≤ 140737488355328) (w : World) :
    Calls Try.prog 20 #[str l, .agg #[.int .i64 x, .int .i64 y, str s]] w (Ret fun v w' => (fitsP l x y → v = .tuple #[str (l.take x.toNat ++ s ++ l.drop (x.toNat + y.toNat)), .int .i64 0]) ∧ (¬ fitsP l x y → v = .tuple #[str [], .int .i64 2]) ∧ Ext [] w w') := by
  refine calls_fx (l := [str l, .agg #[.int .i64 x, .int .i64 y, str s]]) Try.func20 rfl Try.ntmps20 (Nat.le_of_ble_eq_true rfl) (St.start w) ?_
  refine c_seq ?_
  refine c_reg ?_
  refine l_box (by decide) rfl _ rfl (fun b3 => ?_)
  refine l_q (by decide) (p_assign (v := str []) rfl).q ?_
  refine l_q (by decide) (p_assign (v := .int .i64 ((0 : Nat) : Int)) rfl).q ?_
  refine l_nil ?_
  refine c_seq ?_
  refine c_seq ?_
  refine c_reg ?_
  refine l_q (by decide) (p_move rfl).q ?_
  first | refine l_q (by decide) (r_loada Try.underlying30 rfl inf_30 rfl (by first | exact .fact (by repeat (first | exact List.Mem.head _ | apply List.Mem.tail)) | exact .own (by repeat (first | exact List.Mem.head _ | apply List.Mem.tail)) (by decide) (fun _ => rfl)) (by assumption)).q ?_ | refine l_q (by decide) (r_loadow Try.underlying30 rfl inf_30 rfl (by repeat (first | exact List.Mem.head _ | apply List.Mem.tail)) (by rfl)).q ?_ | refine l_q (by decide) (r_loadoa Try.underlying30 rfl inf_30 rfl (by repeat (first | exact List.Mem.head _ | apply List.Mem.tail)) (by rfl) (fun j u h => h)).q ?_
  refine l_q (by decide) (q_call call_24 rfl (fun w hs => fits_ok l x y s hl w)) ?_
  first | refine l_q (by decide) (p_notd rfl).q ?_ | refine l_q (by decide) (p_not rfl).q ?_
  refine l_nil ?_
  first | refine c_dec rfl (fun h9 => ?_) (fun h9 => ?_) | refine c_cond rfl (fun h9 => ?_) (fun h9 => ?_)
  · skip
    have h9 : ¬ fitsP l x y := by simpa using h9
    refine c_seq ?_
    refine c_reg ?_
    refine l_q (by decide) (p_assign (v := str []) rfl).q ?_
    refine l_q (by decide) (p_assign (v := .int .i64 ((2 : Nat) : Int)) rfl).q ?_
    refine l_nil ?_
    refine c_ret ?_
    refine c_ret2 rfl rfl rfl (fun w hs => ?_)
    exact ⟨fun h => absurd h h9, fun _ => rfl, hs.ext⟩
  · skip
    have h9 : fitsP l x y := by simpa using h9
    obtain ⟨x, rfl⟩ := Int.eq_ofNat_of_zero_le h9.1
    obtain ⟨y, rfl⟩ := Int.eq_ofNat_of_zero_le h9.2.2.1
    unfold fitsP at h9
    refine c_skip ?_
    refine c_seq ?_
    refine c_draw mixed (by decide +kernel) ?_
    refine q_q (by decide) (p_move rfl).q ?_
    first | refine q_q (by decide) (p_faddr (i := 0) 0 Try.underlying30 rfl inf_3 (by decide) rfl rfl).q ?_ | refine q_q (by decide) (p_faddro (i := 0) 0 Try.underlying30 rfl inf_3 (by decide) rfl rfl).q ?_
    first | refine q_q (by decide) (r_loado Try.underlying3 rfl rfl (by repeat (first | exact List.Mem.head _ | apply List.Mem.tail)) (by rfl)).q ?_ | refine q_q (by decide) (r_load1 Try.underlying3 rfl rfl (by first | exact .fact (by repeat (first | exact List.Mem.head _ | apply List.Mem.tail)) | exact .own (by repeat (first | exact List.Mem.head _ | apply List.Mem.tail)) (by decide) (fun _ => rfl)) (by first | assumption | rfl) (by rfl)).q ?_ | refine q_q (by decide) (r_loadf Try.underlying3 rfl rfl (by first | exact .fact (by repeat (first | exact List.Mem.head _ | apply List.Mem.tail)) | exact .own (by repeat (first | exact List.Mem.head _ | apply List.Mem.tail)) (by decide) (fun _ => rfl)) (by assumption) (by rfl)).q ?_
    first | refine q_q (by decide) (p_slice_h Try.underlying9 rfl rfl rfl (by omega)).q ?_ | refine q_q (by decide) (p_slice_h Try.underlying9 rfl rfl rfl (by simp; omega)).q ?_
    first | refine q_q (by decide) (p_faddr (i := 2) 2 Try.underlying30 rfl inf_9 (by decide) rfl rfl).q ?_ | refine q_q (by decide) (p_faddro (i := 2) 2 Try.underlying30 rfl inf_9 (by decide) rfl rfl).q ?_
    first | refine q_q (by decide) (r_loado Try.underlying9 rfl rfl (by repeat (first | exact List.Mem.head _ | apply List.Mem.tail)) (by rfl)).q ?_ | refine q_q (by decide) (r_load1 Try.underlying9 rfl rfl (by first | exact .fact (by repeat (first | exact List.Mem.head _ | apply List.Mem.tail)) | exact .own (by repeat (first | exact List.Mem.head _ | apply List.Mem.tail)) (by decide) (fun _ => rfl)) (by first | assumption | rfl) (by rfl)).q ?_ | refine q_q (by decide) (r_loadf Try.underlying9 rfl rfl (by first | exact .fact (by repeat (first | exact List.Mem.head _ | apply List.Mem.tail)) | exact .own (by repeat (first | exact List.Mem.head _ | apply List.Mem.tail)) (by decide) (fun _ => rfl)) (by assumption) (by rfl)).q ?_
    first | refine q_q (by decide) (p_cat rfl rfl (by omega)).q ?_ | refine q_q (by decide) (p_cat rfl rfl (by simp; omega)).q ?_
    refine q_q (by decide) (p_move rfl).q ?_
    first | refine q_q (by decide) (p_faddr (i := 0) 0 Try.underlying30 rfl inf_3 (by decide) rfl rfl).q ?_ | refine q_q (by decide) (p_faddro (i := 0) 0 Try.underlying30 rfl inf_3 (by decide) rfl rfl).q ?_
    first | refine q_q (by decide) (r_loado Try.underlying3 rfl rfl (by repeat (first | exact List.Mem.head _ | apply List.Mem.tail)) (by rfl)).q ?_ | refine q_q (by decide) (r_load1 Try.underlying3 rfl rfl (by first | exact .fact (by repeat (first | exact List.Mem.head _ | apply List.Mem.tail)) | exact .own (by repeat (first | exact List.Mem.head _ | apply List.Mem.tail)) (by decide) (fun _ => rfl)) (by first | assumption | rfl) (by rfl)).q ?_ | refine q_q (by decide) (r_loadf Try.underlying3 rfl rfl (by first | exact .fact (by repeat (first | exact List.Mem.head _ | apply List.Mem.tail)) | exact .own (by repeat (first | exact List.Mem.head _ | apply List.Mem.tail)) (by decide) (fun _ => rfl)) (by assumption) (by rfl)).q ?_
    first | refine q_q (by decide) (p_faddr (i := 1) 1 Try.underlying30 rfl inf_3 (by decide) rfl rfl).q ?_ | refine q_q (by decide) (p_faddro (i := 1) 1 Try.underlying30 rfl inf_3 (by decide) rfl rfl).q ?_
    first | refine q_q (by decide) (r_loado Try.underlying3 rfl rfl (by repeat (first | exact List.Mem.head _ | apply List.Mem.tail)) (by rfl)).q ?_ | refine q_q (by decide) (r_load1 Try.underlying3 rfl rfl (by first | exact .fact (by repeat (first | exact List.Mem.head _ | apply List.Mem.tail)) | exact .own (by repeat (first | exact List.Mem.head _ | apply List.Mem.tail)) (by decide) (fun _ => rfl)) (by first | assumption | rfl) (by rfl)).q ?_ | refine q_q (by decide) (r_loadf Try.underlying3 rfl rfl (by first | exact .fact (by repeat (first | exact List.Mem.head _ | apply List.Mem.tail)) | exact .own (by repeat (first | exact List.Mem.head _ | apply List.Mem.tail)) (by decide) (fun _ => rfl)) (by assumption) (by rfl)).q ?_
    first | refine q_q (by decide) (p_add rfl rfl rfl rfl (by show _ ≤ (9223372036854775807 : Nat); omega)).q ?_ | refine q_q (by decide) (p_addi rfl rfl (by show (-9223372036854775808 : Int) ≤ _; omega) (by show _ ≤ ((9223372036854775807 : Nat) : Int); omega)).q ?_
    first | refine q_q (by decide) (p_slice_l Try.underlying9 rfl rfl rfl (by omega)).q ?_ | refine q_q (by decide) (p_slice_l Try.underlying9 rfl rfl rfl (by simp; omega)).q ?_
    first | refine q_q (by decide) (p_cat rfl rfl (by omega)).q ?_ | refine q_q (by decide) (p_cat rfl rfl (by simp; omega)).q ?_
    refine q_q (by decide) (p_assign rfl).q ?_
    refine q_q (by decide) (p_assign (v := .int .i64 ((0 : Nat) : Int)) rfl).q ?_
    refine q_nil ?_
    refine c_ret ?_
    refine c_ret2 rfl rfl rfl (fun w hs => ?_)
    exact ⟨fun _ => rfl, fun h => absurd h9 h, hs.ext⟩

theorem together_ok (a : List UInt8) (A : Option Addr) (c : Nat) (l : List Td.E) (r : List UInt8) (hal : a.length ≤ 1000) (hl : l.length ≤ 1000000) (hr : r.length ≤ 1000000) (ht : Td.tog a 0 l = some r) (w : World) (hq : Sl 3 edF A l w) :
    Calls Try.prog 17 #[str a, .slice A l.length c] w (Ret fun v w' => v = .tuple #[str r, .bool true] ∧ Ext [] w w') := by
  refine calls_fx (l := [str a, .slice A l.length c]) Try.func17 rfl Try.ntmps17 (Nat.le_of_ble_eq_true rfl) ((St.start w).old hq (dep_sl (by decide) hq)) ?_
  refine c_seq ?_
  refine c_reg ?_
  refine l_q (by decide) (p_assign (v := str []) rfl).q ?_
  refine l_q (by decide) (p_assign rfl).q ?_
  refine l_nil ?_
  refine c_seq ?_
  refine c_reg ?_
  refine l_q (by decide) (p_assign (v := str []) rfl).q ?_
  refine l_nil ?_
  refine c_seq ?_
  refine c_reg ?_
  refine l_q (by decide) (p_assign (v := .int .i64 ((0 : Nat) : Int)) rfl).q ?_
  refine l_nil ?_
  refine c_seq ?_
  refine c_seq ?_
  refine c_reg ?_
  refine l_q (by decide) (p_assign (v := .int .i64 ((0 : Nat) : Int)) rfl).q ?_
  refine l_nil ?_
  refine c_block ?_
  refine c_loop (S := Nat × Nat × List UInt8 × List UInt8) (fun zs => zs.1 ≤ l.length ∧ zs.2.1 ≤ a.length ∧ Td.tog a zs.2.1 (l.drop zs.1) = some zs.2.2.2 ∧ r = zs.2.2.1 ++ zs.2.2.2) (fun zs => l.length - zs.1) (fun zs => [(0, str a), (1, .slice A l.length c), (6, str zs.2.2.1), (7, .int .i64 (zs.2.1 : Int)), (8, .int .i64 (zs.1 : Int))]) (fun zs => []) (fun zs => [Sl 3 edF A l]) (0, 0, [], r) ?_ ?_ ?_ ?_ ?_
  · show (0) ≤ l.length ∧ (0) ≤ a.length ∧ Td.tog a (0) (l.drop (0)) = some (r) ∧ r = ([]) ++ (r)
    exact ⟨Nat.zero_le _, Nat.zero_le _, ht, rfl⟩
  · exact ⟨rfl, rfl, rfl, rfl, rfl, trivial⟩
  · exact .refl _
  · exact fun _ h => h
  rintro ⟨k, p, o, q⟩ hinv
  have hinv : k ≤ l.length ∧ p ≤ a.length ∧ Td.tog a p (l.drop k) = some q ∧ r = o ++ q := hinv
  obtain ⟨hk, hpa, hg, hro⟩ := hinv
  have hlr : o.length + q.length = r.length := by rw [hro, List.length_append]
  show Cont _ _ _ _ [(0, str a), (1, .slice A l.length c), (6, str o), (7, .int .i64 (p : Int)), (8, .int .i64 (k : Int))] ([]) [Sl 3 edF A l]
  refine c_seq ?_
  refine c_seq ?_
  refine c_reg ?_
  refine l_q (by decide) (p_move rfl).q ?_
  refine l_q (by decide) (p_move rfl).q ?_
  refine l_q (by decide) (p_len_sl Try.underlying27 rfl).q ?_
  first | refine l_q (by decide) (p_lss rfl rfl rfl rfl).q ?_ | refine l_q (by decide) (p_lssi rfl rfl).q ?_
  refine l_nil ?_
  first | refine c_dec rfl (fun h13 => ?_) (fun h13 => ?_) | refine c_cond rfl (fun h13 => ?_) (fun h13 => ?_)
  · skip
    obtain ⟨e, he⟩ : ∃ e, l[k]? = some e := ⟨_, List.getElem?_eq_getElem (by omega)⟩
    have hd : l.drop k = e :: l.drop (k + 1) := by rw [List.drop_eq_getElem_cons (by omega)]; rw [(List.getElem?_eq_some_iff.1 he).2]
    rw [hd] at hg
    obtain ⟨hg1, hg2, hg3, q2, hq2, hq3⟩ := tog_step hg
    have hlq : q.length = (e.at_ - p) + e.ins.length + q2.length := by rw [hq3]; simp only [List.length_append, List.length_take, List.length_drop]; omega
    refine c_skip ?_
    refine c_seq ?_
    refine c_block ?_
    refine c_seq ?_
    refine c_reg ?_
    refine l_q (by decide) (p_move rfl).q ?_
    refine l_q (by decide) (p_move rfl).q ?_
    first | refine l_q (by decide) (r_index Try.underlying27 inf_30 rfl rfl rfl (by first | exact .fact (by repeat (first | exact List.Mem.head _ | apply List.Mem.tail)) | exact .own (by repeat (first | exact List.Mem.head _ | apply List.Mem.tail)) (by decide) (fun _ => rfl)) rfl (by omega)).q ?_ | refine l_q (by decide) (r_index Try.underlying27 inf_30 rfl rfl rfl (by first | exact .fact (by repeat (first | exact List.Mem.head _ | apply List.Mem.tail)) | exact .own (by repeat (first | exact List.Mem.head _ | apply List.Mem.tail)) (by decide) (fun _ => rfl)) rfl (by decide)).q ?_ | refine l_q (by decide) (p_indexo Try.underlying27 inf_30 rfl rfl rfl (by omega)).q ?_
    first | refine l_q (by decide) (r_loada Try.underlying30 rfl inf_30 rfl (by first | exact .fact (by repeat (first | exact List.Mem.head _ | apply List.Mem.tail)) | exact .own (by repeat (first | exact List.Mem.head _ | apply List.Mem.tail)) (by decide) (fun _ => rfl)) (by assumption)).q ?_ | refine l_q (by decide) (r_loadow Try.underlying30 rfl inf_30 rfl (by repeat (first | exact List.Mem.head _ | apply List.Mem.tail)) (by rfl)).q ?_ | refine l_q (by decide) (r_loadoa Try.underlying30 rfl inf_30 rfl (by repeat (first | exact List.Mem.head _ | apply List.Mem.tail)) (by rfl) (fun j u h => h)).q ?_
    refine l_alloc (by decide) inf_30 _ rfl (fun b9 => ?_)
    first | (refine l_storew inf_30 rfl rfl rfl rfl rfl ?_) | (refine l_perm (front1 _ _ _) ?_; refine l_storew inf_30 rfl rfl rfl rfl rfl ?_) | (refine l_perm (front2 _ _ _ _) ?_; refine l_storew inf_30 rfl rfl rfl rfl rfl ?_) | (refine l_perm (front3 _ _ _ _ _) ?_; refine l_storew inf_30 rfl rfl rfl rfl rfl ?_) | (refine l_perm (front4 _ _ _ _ _ _) ?_; refine l_storew inf_30 rfl rfl rfl rfl rfl ?_) | (refine l_storea inf_30 rfl rfl rfl rfl (by decide) ?_) | (refine l_perm (front1 _ _ _) ?_; refine l_storea inf_30 rfl rfl rfl rfl (by decide) ?_) | (refine l_perm (front2 _ _ _ _) ?_; refine l_storea inf_30 rfl rfl rfl rfl (by decide) ?_)
    refine l_nil ?_
    refine c_seq ?_
    refine c_seq ?_
    refine c_meetn (S := Unit) (fun zs => True) (fun zs => [(0, str a), (1, .slice A l.length c), (6, str o), (7, .int .i64 (p : Int)), (8, .int .i64 (k : Int)), (9, .pointer (some ⟨b9, 0, none⟩)), (45, .bool (decide (e.at_ < p)))]) (fun zs => [iCells b9 30 (edF e)]) (fun zs => [Sl 3 edF A l]) ?_ ?_
    · skip
      refine c_reg ?_
      first | refine l_q (by decide) (p_faddr (i := 0) 0 Try.underlying30 rfl inf_3 (by decide) rfl rfl).q ?_ | refine l_q (by decide) (p_faddro (i := 0) 0 Try.underlying30 rfl inf_3 (by decide) rfl rfl).q ?_
      first | refine l_q (by decide) (r_loado Try.underlying3 rfl rfl (by repeat (first | exact List.Mem.head _ | apply List.Mem.tail)) (by rfl)).q ?_ | refine l_q (by decide) (r_load1 Try.underlying3 rfl rfl (by first | exact .fact (by repeat (first | exact List.Mem.head _ | apply List.Mem.tail)) | exact .own (by repeat (first | exact List.Mem.head _ | apply List.Mem.tail)) (by decide) (fun _ => rfl)) (by first | assumption | rfl) (by rfl)).q ?_ | refine l_q (by decide) (r_loadf Try.underlying3 rfl rfl (by first | exact .fact (by repeat (first | exact List.Mem.head _ | apply List.Mem.tail)) | exact .own (by repeat (first | exact List.Mem.head _ | apply List.Mem.tail)) (by decide) (fun _ => rfl)) (by assumption) (by rfl)).q ?_
      refine l_q (by decide) (p_move rfl).q ?_
      first | refine l_q (by decide) (p_lss rfl rfl rfl rfl).q ?_ | refine l_q (by decide) (p_lssi rfl rfl).q ?_
      refine l_q (by decide) (p_move rfl).q ?_
      first | refine l_splitd (t := 24) rfl (fun h24 => ?_) (fun h24 => ?_) | refine l_splitb (t := 24) rfl (fun h24 => ?_) (fun h24 => ?_)
      · skip
        refine l_off (j := 4) rfl rfl (by first | (simp; done) | (simp [undef]; done)) (by decide) ?_
        refine l_off (j := 4) rfl rfl (by first | (simp; done) | (simp [undef]; done)) (by decide) ?_
        refine l_off (j := 4) rfl rfl (by first | (simp; done) | (simp [undef]; done)) (by decide) ?_
        refine l_off (j := 4) rfl rfl (by first | (simp; done) | (simp [undef]; done)) (by decide) ?_
        refine l_off (j := 4) rfl rfl (by first | (simp; done) | (simp [undef]; done)) (by decide) ?_
        refine l_q (by decide) (p_pick rfl rfl).q ?_
        refine l_q (by decide) (p_move rfl).q ?_
        refine l_off (j := 11) rfl rfl (by first | (simp; done) | (simp [undef]; done)) (by decide) ?_
        refine l_off (j := 11) rfl rfl (by first | (simp; done) | (simp [undef]; done)) (by decide) ?_
        refine l_off (j := 11) rfl rfl (by first | (simp; done) | (simp [undef]; done)) (by decide) ?_
        refine l_q (by decide) (p_pick rfl rfl).q ?_
        refine l_q (by decide) (p_move rfl).q ?_
        refine l_off (j := 16) rfl rfl (by first | (simp; done) | (simp [undef]; done)) (by decide) ?_
        refine l_off (j := 16) rfl rfl (by first | (simp; done) | (simp [undef]; done)) (by decide) ?_
        refine l_off (j := 16) rfl rfl (by first | (simp; done) | (simp [undef]; done)) (by decide) ?_
        refine l_off (j := 16) rfl rfl (by first | (simp; done) | (simp [undef]; done)) (by decide) ?_
        refine l_off (j := 16) rfl rfl (by first | (simp; done) | (simp [undef]; done)) (by decide) ?_
        refine l_off (j := 16) rfl rfl (by first | (simp; done) | (simp [undef]; done)) (by decide) ?_
        refine l_off (j := 16) rfl rfl (by first | (simp; done) | (simp [undef]; done)) (by decide) ?_
        refine l_off (j := 16) rfl rfl (by first | (simp; done) | (simp [undef]; done)) (by decide) ?_
        refine l_q (by decide) (p_pick rfl rfl).q ?_
        refine l_nil ?_
        refine c_join (()) ?inv ?sub ?perm ?facts
        case sub => exact ⟨rfl, rfl, rfl, rfl, rfl, rfl, (by first | rfl | exact congrArg (fun b => some (Value.bool b)) (decide_eq_true (by omega)).symm | exact congrArg (fun b => some (Value.bool b)) (decide_eq_false (by omega)).symm | exact congrArg (fun b => some (Value.bool b)) (decide_eq_decide.2 (by omega))), trivial⟩
        case perm =>
          exact .refl _
        case facts => exact fun _ h => h
        case inv =>
          trivial
      · skip
        first | refine l_g (j := 4) rfl rfl (by decide) (p_faddr (i := 0) 0 Try.underlying30 rfl inf_3 (by decide) rfl rfl).q ?_ | refine l_g (j := 4) rfl rfl (by decide) (p_faddro (i := 0) 0 Try.underlying30 rfl inf_3 (by decide) rfl rfl).q ?_
        first | refine l_g (j := 4) rfl rfl (by decide) (r_loado Try.underlying3 rfl rfl (by repeat (first | exact List.Mem.head _ | apply List.Mem.tail)) (by rfl)).q ?_ | refine l_g (j := 4) rfl rfl (by decide) (r_load1 Try.underlying3 rfl rfl (by first | exact .fact (by repeat (first | exact List.Mem.head _ | apply List.Mem.tail)) | exact .own (by repeat (first | exact List.Mem.head _ | apply List.Mem.tail)) (by decide) (fun _ => rfl)) (by first | assumption | rfl) (by rfl)).q ?_ | refine l_g (j := 4) rfl rfl (by decide) (r_loadf Try.underlying3 rfl rfl (by first | exact .fact (by repeat (first | exact List.Mem.head _ | apply List.Mem.tail)) | exact .own (by repeat (first | exact List.Mem.head _ | apply List.Mem.tail)) (by decide) (fun _ => rfl)) (by assumption) (by rfl)).q ?_
        refine l_g (j := 4) rfl rfl (by decide) (p_move rfl).q ?_
        refine l_g (j := 4) rfl rfl (by decide) (p_len_str Try.underlying9 rfl).q ?_
        first | refine l_g (j := 4) rfl rfl (by decide) (p_gtr rfl rfl rfl rfl).q ?_ | refine l_g (j := 4) rfl rfl (by decide) (p_gtri rfl rfl).q ?_
        refine l_q (by decide) (p_pick rfl rfl).q ?_
        refine l_q (by decide) (p_move rfl).q ?_
        first | refine l_splitd (t := 31) rfl (fun h31 => ?_) (fun h31 => ?_) | refine l_splitb (t := 31) rfl (fun h31 => ?_) (fun h31 => ?_)
        · skip
          refine l_off (j := 11) rfl rfl (by first | (simp; done) | (simp [undef]; done)) (by decide) ?_
          refine l_off (j := 11) rfl rfl (by first | (simp; done) | (simp [undef]; done)) (by decide) ?_
          refine l_off (j := 11) rfl rfl (by first | (simp; done) | (simp [undef]; done)) (by decide) ?_
          refine l_q (by decide) (p_pick rfl rfl).q ?_
          refine l_q (by decide) (p_move rfl).q ?_
          refine l_off (j := 16) rfl rfl (by first | (simp; done) | (simp [undef]; done)) (by decide) ?_
          refine l_off (j := 16) rfl rfl (by first | (simp; done) | (simp [undef]; done)) (by decide) ?_
          refine l_off (j := 16) rfl rfl (by first | (simp; done) | (simp [undef]; done)) (by decide) ?_
          refine l_off (j := 16) rfl rfl (by first | (simp; done) | (simp [undef]; done)) (by decide) ?_
          refine l_off (j := 16) rfl rfl (by first | (simp; done) | (simp [undef]; done)) (by decide) ?_
          refine l_off (j := 16) rfl rfl (by first | (simp; done) | (simp [undef]; done)) (by decide) ?_
          refine l_off (j := 16) rfl rfl (by first | (simp; done) | (simp [undef]; done)) (by decide) ?_
          refine l_off (j := 16) rfl rfl (by first | (simp; done) | (simp [undef]; done)) (by decide) ?_
          refine l_q (by decide) (p_pick rfl rfl).q ?_
          refine l_nil ?_
          refine c_join (()) ?inv ?sub ?perm ?facts
          case sub => exact ⟨rfl, rfl, rfl, rfl, rfl, rfl, (by first | rfl | exact congrArg (fun b => some (Value.bool b)) (decide_eq_true (by omega)).symm | exact congrArg (fun b => some (Value.bool b)) (decide_eq_false (by omega)).symm | exact congrArg (fun b => some (Value.bool b)) (decide_eq_decide.2 (by omega))), trivial⟩
          case perm =>
            exact .refl _
          case facts => exact fun _ h => h
          case inv =>
            trivial
        · skip
          first | refine l_g (j := 11) rfl rfl (by decide) (p_faddr (i := 1) 1 Try.underlying30 rfl inf_3 (by decide) rfl rfl).q ?_ | refine l_g (j := 11) rfl rfl (by decide) (p_faddro (i := 1) 1 Try.underlying30 rfl inf_3 (by decide) rfl rfl).q ?_
          first | refine l_g (j := 11) rfl rfl (by decide) (r_loado Try.underlying3 rfl rfl (by repeat (first | exact List.Mem.head _ | apply List.Mem.tail)) (by rfl)).q ?_ | refine l_g (j := 11) rfl rfl (by decide) (r_load1 Try.underlying3 rfl rfl (by first | exact .fact (by repeat (first | exact List.Mem.head _ | apply List.Mem.tail)) | exact .own (by repeat (first | exact List.Mem.head _ | apply List.Mem.tail)) (by decide) (fun _ => rfl)) (by first | assumption | rfl) (by rfl)).q ?_ | refine l_g (j := 11) rfl rfl (by decide) (r_loadf Try.underlying3 rfl rfl (by first | exact .fact (by repeat (first | exact List.Mem.head _ | apply List.Mem.tail)) | exact .own (by repeat (first | exact List.Mem.head _ | apply List.Mem.tail)) (by decide) (fun _ => rfl)) (by assumption) (by rfl)).q ?_
          first | refine l_g (j := 11) rfl rfl (by decide) (p_lss (j := 0) rfl rfl rfl rfl).q ?_ | refine l_g (j := 11) rfl rfl (by decide) (p_lssi rfl rfl).q ?_
          refine l_q (by decide) (p_pick rfl rfl).q ?_
          refine l_q (by decide) (p_move rfl).q ?_
          first | refine l_splitd (t := 36) rfl (fun h36 => ?_) (fun h36 => ?_) | refine l_splitb (t := 36) rfl (fun h36 => ?_) (fun h36 => ?_)
          · skip
            refine l_off (j := 16) rfl rfl (by first | (simp; done) | (simp [undef]; done)) (by decide) ?_
            refine l_off (j := 16) rfl rfl (by first | (simp; done) | (simp [undef]; done)) (by decide) ?_
            refine l_off (j := 16) rfl rfl (by first | (simp; done) | (simp [undef]; done)) (by decide) ?_
            refine l_off (j := 16) rfl rfl (by first | (simp; done) | (simp [undef]; done)) (by decide) ?_
            refine l_off (j := 16) rfl rfl (by first | (simp; done) | (simp [undef]; done)) (by decide) ?_
            refine l_off (j := 16) rfl rfl (by first | (simp; done) | (simp [undef]; done)) (by decide) ?_
            refine l_off (j := 16) rfl rfl (by first | (simp; done) | (simp [undef]; done)) (by decide) ?_
            refine l_off (j := 16) rfl rfl (by first | (simp; done) | (simp [undef]; done)) (by decide) ?_
            refine l_q (by decide) (p_pick rfl rfl).q ?_
            refine l_nil ?_
            refine c_join (()) ?inv ?sub ?perm ?facts
            case sub => exact ⟨rfl, rfl, rfl, rfl, rfl, rfl, (by first | rfl | exact congrArg (fun b => some (Value.bool b)) (decide_eq_true (by omega)).symm | exact congrArg (fun b => some (Value.bool b)) (decide_eq_false (by omega)).symm | exact congrArg (fun b => some (Value.bool b)) (decide_eq_decide.2 (by omega))), trivial⟩
            case perm =>
              exact .refl _
            case facts => exact fun _ h => h
            case inv =>
              trivial
          · skip
            first | refine l_g (j := 16) rfl rfl (by decide) (p_faddr (i := 1) 1 Try.underlying30 rfl inf_3 (by decide) rfl rfl).q ?_ | refine l_g (j := 16) rfl rfl (by decide) (p_faddro (i := 1) 1 Try.underlying30 rfl inf_3 (by decide) rfl rfl).q ?_
            first | refine l_g (j := 16) rfl rfl (by decide) (r_loado Try.underlying3 rfl rfl (by repeat (first | exact List.Mem.head _ | apply List.Mem.tail)) (by rfl)).q ?_ | refine l_g (j := 16) rfl rfl (by decide) (r_load1 Try.underlying3 rfl rfl (by first | exact .fact (by repeat (first | exact List.Mem.head _ | apply List.Mem.tail)) | exact .own (by repeat (first | exact List.Mem.head _ | apply List.Mem.tail)) (by decide) (fun _ => rfl)) (by first | assumption | rfl) (by rfl)).q ?_ | refine l_g (j := 16) rfl rfl (by decide) (r_loadf Try.underlying3 rfl rfl (by first | exact .fact (by repeat (first | exact List.Mem.head _ | apply List.Mem.tail)) | exact .own (by repeat (first | exact List.Mem.head _ | apply List.Mem.tail)) (by decide) (fun _ => rfl)) (by assumption) (by rfl)).q ?_
            refine l_g (j := 16) rfl rfl (by decide) (p_move rfl).q ?_
            refine l_g (j := 16) rfl rfl (by decide) (p_len_str Try.underlying9 rfl).q ?_
            first | refine l_g (j := 16) rfl rfl (by decide) (p_faddr (i := 0) 0 Try.underlying30 rfl inf_3 (by decide) rfl rfl).q ?_ | refine l_g (j := 16) rfl rfl (by decide) (p_faddro (i := 0) 0 Try.underlying30 rfl inf_3 (by decide) rfl rfl).q ?_
            first | refine l_g (j := 16) rfl rfl (by decide) (r_loado Try.underlying3 rfl rfl (by repeat (first | exact List.Mem.head _ | apply List.Mem.tail)) (by rfl)).q ?_ | refine l_g (j := 16) rfl rfl (by decide) (r_load1 Try.underlying3 rfl rfl (by first | exact .fact (by repeat (first | exact List.Mem.head _ | apply List.Mem.tail)) | exact .own (by repeat (first | exact List.Mem.head _ | apply List.Mem.tail)) (by decide) (fun _ => rfl)) (by first | assumption | rfl) (by rfl)).q ?_ | refine l_g (j := 16) rfl rfl (by decide) (r_loadf Try.underlying3 rfl rfl (by first | exact .fact (by repeat (first | exact List.Mem.head _ | apply List.Mem.tail)) | exact .own (by repeat (first | exact List.Mem.head _ | apply List.Mem.tail)) (by decide) (fun _ => rfl)) (by assumption) (by rfl)).q ?_
            first | refine l_g (j := 16) rfl rfl (by decide) (p_sub rfl rfl rfl rfl (by omega) (by show _ ≤ (9223372036854775807 : Nat); omega)).q ?_ | refine l_g (j := 16) rfl rfl (by decide) (p_subi rfl rfl (by show (-9223372036854775808 : Int) ≤ _; omega) (by show _ ≤ ((9223372036854775807 : Nat) : Int); omega)).q ?_
            first | refine l_g (j := 16) rfl rfl (by decide) (p_gtr rfl rfl rfl rfl).q ?_ | refine l_g (j := 16) rfl rfl (by decide) (p_gtri rfl rfl).q ?_
            refine l_q (by decide) (p_pick rfl rfl).q ?_
            refine l_nil ?_
            refine c_join (()) ?inv ?sub ?perm ?facts
            case sub => exact ⟨rfl, rfl, rfl, rfl, rfl, rfl, (by first | rfl | exact congrArg (fun b => some (Value.bool b)) (decide_eq_true (by omega)).symm | exact congrArg (fun b => some (Value.bool b)) (decide_eq_false (by omega)).symm | exact congrArg (fun b => some (Value.bool b)) (decide_eq_decide.2 (by omega))), trivial⟩
            case perm =>
              exact .refl _
            case facts => exact fun _ h => h
            case inv =>
              trivial
    rintro uu hmeet
    show Cont _ _ _ _ [(0, str a), (1, .slice A l.length c), (6, str o), (7, .int .i64 (p : Int)), (8, .int .i64 (k : Int)), (9, .pointer (some ⟨b9, 0, none⟩)), (45, .bool (decide (e.at_ < p)))] ([iCells b9 30 (edF e)]) [Sl 3 edF A l]
    first | refine c_dec rfl (fun h45 => ?_) (fun h45 => ?_) | refine c_cond rfl (fun h45 => ?_) (fun h45 => ?_)
    · skip
      refine c_seq ?_
      refine c_reg ?_
      refine l_q (by decide) (p_assign (v := str []) rfl).q ?_
      refine l_q (by decide) (p_assign rfl).q ?_
      refine l_nil ?_
      refine c_ret ?_
      refine c_ret2 rfl rfl rfl (fun w hs => ?_)
      exact absurd h45 (by omega)
    · skip
      refine c_skip ?_
      refine c_seq ?_
      refine c_draw mixed (by decide +kernel) ?_
      refine q_q (by decide) (p_move rfl).q ?_
      refine q_q (by decide) (p_move rfl).q ?_
      refine q_q (by decide) (p_move rfl).q ?_
      first | refine q_q (by decide) (p_faddr (i := 0) 0 Try.underlying30 rfl inf_3 (by decide) rfl rfl).q ?_ | refine q_q (by decide) (p_faddro (i := 0) 0 Try.underlying30 rfl inf_3 (by decide) rfl rfl).q ?_
      first | refine q_q (by decide) (r_loado Try.underlying3 rfl rfl (by repeat (first | exact List.Mem.head _ | apply List.Mem.tail)) (by rfl)).q ?_ | refine q_q (by decide) (r_load1 Try.underlying3 rfl rfl (by first | exact .fact (by repeat (first | exact List.Mem.head _ | apply List.Mem.tail)) | exact .own (by repeat (first | exact List.Mem.head _ | apply List.Mem.tail)) (by decide) (fun _ => rfl)) (by first | assumption | rfl) (by rfl)).q ?_ | refine q_q (by decide) (r_loadf Try.underlying3 rfl rfl (by first | exact .fact (by repeat (first | exact List.Mem.head _ | apply List.Mem.tail)) | exact .own (by repeat (first | exact List.Mem.head _ | apply List.Mem.tail)) (by decide) (fun _ => rfl)) (by assumption) (by rfl)).q ?_
      first | refine q_q (by decide) (p_slice_lh Try.underlying9 rfl rfl rfl rfl rfl (by omega) (by omega)).q ?_ | refine q_q (by decide) (p_slice_lh Try.underlying9 rfl rfl rfl rfl rfl (by omega) (by simp; omega)).q ?_
      first | refine q_q (by decide) (p_cat rfl rfl (by omega)).q ?_ | refine q_q (by decide) (p_cat rfl rfl (by simp; omega)).q ?_
      first | refine q_q (by decide) (p_faddr (i := 2) 2 Try.underlying30 rfl inf_9 (by decide) rfl rfl).q ?_ | refine q_q (by decide) (p_faddro (i := 2) 2 Try.underlying30 rfl inf_9 (by decide) rfl rfl).q ?_
      first | refine q_q (by decide) (r_loado Try.underlying9 rfl rfl (by repeat (first | exact List.Mem.head _ | apply List.Mem.tail)) (by rfl)).q ?_ | refine q_q (by decide) (r_load1 Try.underlying9 rfl rfl (by first | exact .fact (by repeat (first | exact List.Mem.head _ | apply List.Mem.tail)) | exact .own (by repeat (first | exact List.Mem.head _ | apply List.Mem.tail)) (by decide) (fun _ => rfl)) (by first | assumption | rfl) (by rfl)).q ?_ | refine q_q (by decide) (r_loadf Try.underlying9 rfl rfl (by first | exact .fact (by repeat (first | exact List.Mem.head _ | apply List.Mem.tail)) | exact .own (by repeat (first | exact List.Mem.head _ | apply List.Mem.tail)) (by decide) (fun _ => rfl)) (by assumption) (by rfl)).q ?_
      first | refine q_q (by decide) (p_cat rfl rfl (by omega)).q ?_ | refine q_q (by decide) (p_cat rfl rfl (by simp; omega)).q ?_
      refine q_q (by decide) (p_assign rfl).q ?_
      refine q_nil ?_
      refine c_reg ?_
      first | refine l_q (by decide) (p_faddr (i := 0) 0 Try.underlying30 rfl inf_3 (by decide) rfl rfl).q ?_ | refine l_q (by decide) (p_faddro (i := 0) 0 Try.underlying30 rfl inf_3 (by decide) rfl rfl).q ?_
      first | refine l_q (by decide) (r_loado Try.underlying3 rfl rfl (by repeat (first | exact List.Mem.head _ | apply List.Mem.tail)) (by rfl)).q ?_ | refine l_q (by decide) (r_load1 Try.underlying3 rfl rfl (by first | exact .fact (by repeat (first | exact List.Mem.head _ | apply List.Mem.tail)) | exact .own (by repeat (first | exact List.Mem.head _ | apply List.Mem.tail)) (by decide) (fun _ => rfl)) (by first | assumption | rfl) (by rfl)).q ?_ | refine l_q (by decide) (r_loadf Try.underlying3 rfl rfl (by first | exact .fact (by repeat (first | exact List.Mem.head _ | apply List.Mem.tail)) | exact .own (by repeat (first | exact List.Mem.head _ | apply List.Mem.tail)) (by decide) (fun _ => rfl)) (by assumption) (by rfl)).q ?_
      first | refine l_q (by decide) (p_faddr (i := 1) 1 Try.underlying30 rfl inf_3 (by decide) rfl rfl).q ?_ | refine l_q (by decide) (p_faddro (i := 1) 1 Try.underlying30 rfl inf_3 (by decide) rfl rfl).q ?_
      first | refine l_q (by decide) (r_loado Try.underlying3 rfl rfl (by repeat (first | exact List.Mem.head _ | apply List.Mem.tail)) (by rfl)).q ?_ | refine l_q (by decide) (r_load1 Try.underlying3 rfl rfl (by first | exact .fact (by repeat (first | exact List.Mem.head _ | apply List.Mem.tail)) | exact .own (by repeat (first | exact List.Mem.head _ | apply List.Mem.tail)) (by decide) (fun _ => rfl)) (by first | assumption | rfl) (by rfl)).q ?_ | refine l_q (by decide) (r_loadf Try.underlying3 rfl rfl (by first | exact .fact (by repeat (first | exact List.Mem.head _ | apply List.Mem.tail)) | exact .own (by repeat (first | exact List.Mem.head _ | apply List.Mem.tail)) (by decide) (fun _ => rfl)) (by assumption) (by rfl)).q ?_
      first | refine l_q (by decide) (p_add rfl rfl rfl rfl (by show _ ≤ (9223372036854775807 : Nat); omega)).q ?_ | refine l_q (by decide) (p_addi rfl rfl (by show (-9223372036854775808 : Int) ≤ _; omega) (by show _ ≤ ((9223372036854775807 : Nat) : Int); omega)).q ?_
      refine l_q (by decide) (p_assign rfl).q ?_
      refine l_nil ?_
      refine c_reg ?_
      refine l_q (by decide) (p_move rfl).q ?_
      first | refine l_q (by decide) (p_add (j := 1) rfl rfl rfl rfl (by show _ ≤ (9223372036854775807 : Nat); omega)).q ?_ | refine l_q (by decide) (p_addi rfl rfl (by show (-9223372036854775808 : Int) ≤ _; omega) (by show _ ≤ ((9223372036854775807 : Nat) : Int); omega)).q ?_
      refine l_q (by decide) (p_assign rfl).q ?_
      refine l_nil ?_
      refine c_drop ?_
      refine c_join ((k + 1), (e.at_ + e.del), (o ++ (a.drop p).take (e.at_ - p) ++ e.ins), (q2)) ?_ ?_ ?_ ?_
      · show ((k + 1) ≤ l.length ∧ (e.at_ + e.del) ≤ a.length ∧ Td.tog a (e.at_ + e.del) (l.drop (k + 1)) = some (q2) ∧ r = (o ++ (a.drop p).take (e.at_ - p) ++ e.ins) ++ (q2)) ∧ l.length - (k + 1) < l.length - k
        exact ⟨⟨by omega, by omega, hq2, by rw [hro, hq3]; simp⟩, by omega⟩
      · exact ⟨rfl, rfl, rfl, rfl, rfl, trivial⟩
      · show List.Perm _ ([])
        exact .refl _
      · exact fun _ h => h
  · skip
    have hkl : k = l.length := by omega
    rw [List.drop_of_length_le (by omega), Td.tog] at hg
    injection hg with hg
    have hlq := congrArg List.length hg
    rw [List.length_drop] at hlq
    refine c_exit ?_
    refine c_here ?_
    refine c_seq ?_
    refine c_reg ?_
    refine l_q (by decide) (p_move rfl).q ?_
    refine l_q (by decide) (p_move rfl).q ?_
    refine l_q (by decide) (p_move rfl).q ?_
    first | refine l_q (by decide) (p_slice_l Try.underlying9 rfl rfl rfl (by omega)).q ?_ | refine l_q (by decide) (p_slice_l Try.underlying9 rfl rfl rfl (by simp; omega)).q ?_
    first | refine l_q (by decide) (p_cat rfl rfl (by omega)).q ?_ | refine l_q (by decide) (p_cat rfl rfl (by simp; omega)).q ?_
    refine l_q (by decide) (p_assign rfl).q ?_
    refine l_q (by decide) (p_assign rfl).q ?_
    refine l_nil ?_
    refine c_ret ?_
    refine c_ret2 rfl rfl rfl (fun w hs => ?_)
    exact ⟨by rw [hro, hg], hs.ext⟩
end Go.Proofs.Ytnkmemoagimddaa
