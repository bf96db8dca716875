/- The walks of textdiff, fifth part; conditions: lengths. -/
import Derived.Test.YtnkmemoagimddaaWalksD
namespace Go.Proofs.Ytnkmemoagimddaa
open Go Go.Fx Go.Proofs

theorem neq_of {a b : List UInt8} {i j : Nat} {u u2 : UInt8} (h1 : a[i]? = some u) (h2 : b[j]? = some u2) (h : ¬ u.toNat = u2.toNat) : Td.Neq a b i j := fun ⟨x, hx, hy⟩ => by
  rw [h1] at hx; rw [h2] at hy; injection hx with hx; injection hy with hy
  subst hx; subst hy; exact h rfl
theorem neq_a {a b : List UInt8} {i j : Nat} (h : ¬ i < a.length) : Td.Neq a b i j := fun ⟨_, hx, _⟩ => h (List.getElem?_eq_some_iff.1 hx).1
theorem neq_b {a b : List UInt8} {i j : Nat} (h : ¬ j < b.length) : Td.Neq a b i j := fun ⟨_, _, hx⟩ => h (List.getElem?_eq_some_iff.1 hx).1
theorem call_23 : Callable Try.prog 23 := ⟨_, Try.func23, by kernel_rfl, rfl⟩
theorem diff_ok (a b : List UInt8) (hal : a.length ≤ 1000) (hbl : b.length ≤ 1000) (w : World) :
    Calls Try.prog 15 #[str a, str b] w (Ret fun v w' => ∃ x : Option Addr × Nat, v = .slice x.1 (Td.diff a b).length x.2 ∧ Sl 3 edF x.1 (Td.diff a b) w' ∧ Dep w.heap.size w'.heap.size (Sl 3 edF x.1 (Td.diff a b)) ∧ Ext [] w w') := by
  refine calls_fx (l := [str a, str b]) Try.func15 rfl Try.ntmps15 (Nat.le_of_ble_eq_true rfl) (St.start w) ?_
  refine c_seq ?_
  refine c_reg ?_
  refine l_q (by decide) (p_assign rfl).q ?_
  refine l_nil ?_
  refine c_seq ?_
  refine c_reg ?_
  refine l_q (by decide) (p_move rfl).q ?_
  refine l_q (by decide) (p_move rfl).q ?_
  refine l_call (X := Nat × Nat) (fun x => .pointer (some ⟨x.1, 0, none⟩)) (fun x => Tab x.1 x.2 a b (Td.full a b)) (by decide) call_21 rfl (fun w hs => of_ok a b hal hbl w) (fun tx => ?_)
  refine l_q (by decide) (p_assign rfl).q ?_
  refine l_nil ?_
  refine c_seq ?_
  refine c_reg ?_
  refine l_q (by decide) (p_assign rfl).q ?_
  refine l_nil ?_
  refine c_seq ?_
  refine c_reg ?_
  refine l_alloc (by decide) inf_30 _ rfl (fun b7 => ?_)
  refine l_nil ?_
  refine c_seq ?_
  refine c_reg ?_
  refine l_q (by decide) (p_assign rfl).q ?_
  refine l_nil ?_
  refine c_seq ?_
  refine c_reg ?_
  refine l_q (by decide) (p_assign (v := .int .i64 ((0 : Nat) : Int)) rfl).q ?_
  refine l_q (by decide) (p_assign (v := .int .i64 ((0 : Nat) : Int)) rfl).q ?_
  refine l_nil ?_
  refine c_seq ?_
  refine c_block ?_
  refine c_sl0 30 3 edF ?_
  refine c_loop (S := Nat × Nat × List Td.E × Option Addr × Nat × Bool × Td.E) (fun s => Td.Mid a b s.1 s.2.1 s.2.2.1 s.2.2.2.2.2.1 s.2.2.2.2.2.2) (fun s => (a.length - s.1) + (b.length - s.2.1)) (fun s => [(0, str a), (1, str b), (5, .pointer (some ⟨tx.1, 0, none⟩)), (6, .slice s.2.2.2.1 (s.2.2.1).length s.2.2.2.2.1), (7, .pointer (some ⟨b7, 0, none⟩)), (8, .bool s.2.2.2.2.2.1), (9, .int .i64 (s.1 : Int)), (10, .int .i64 (s.2.1 : Int))]) (fun s => [iCells b7 30 (edF s.2.2.2.2.2.2), iSl 30 3 edF s.2.2.2.1 s.2.2.2.2.1 s.2.2.1]) (fun s => [Tab tx.1 tx.2 a b (Td.full a b)]) (0, 0, [], none, 0, false, ⟨0, 0, []⟩) ?_ ?_ ?_ ?_ ?_
  · show Td.Mid a b (0) (0) ([]) (false) (⟨0, 0, []⟩)
    exact Td.Mid.start a b _
  · exact ⟨rfl, rfl, rfl, rfl, rfl, rfl, rfl, rfl, trivial⟩
  · exact by repeat (first | exact List.Perm.refl _ | refine List.Perm.cons _ ?_ | refine (front1 _ _ _).trans (List.Perm.cons _ ?_) | refine (front2 _ _ _ _).trans (List.Perm.cons _ ?_) | refine (front3 _ _ _ _ _).trans (List.Perm.cons _ ?_) | refine (front4 _ _ _ _ _ _).trans (List.Perm.cons _ ?_))
  · exact fun _ h => h
  rintro ⟨i, j, acc, A, c, op, e⟩ hinv
  have hinv : Td.Mid a b i j acc op e := hinv
  have hm := hinv
  have hmi := hm.hi
  have hmj := hm.hj
  show Cont _ _ _ _ [(0, str a), (1, str b), (5, .pointer (some ⟨tx.1, 0, none⟩)), (6, .slice A (acc).length c), (7, .pointer (some ⟨b7, 0, none⟩)), (8, .bool op), (9, .int .i64 (i : Int)), (10, .int .i64 (j : Int))] ([iCells b7 30 (edF e), iSl 30 3 edF A c acc]) [Tab tx.1 tx.2 a b (Td.full a b)]
  refine c_seq ?_
  refine c_seq ?_
  refine c_meetn (S := Unit) (fun s => True) (fun s => [(0, str a), (1, str b), (5, .pointer (some ⟨tx.1, 0, none⟩)), (6, .slice A (acc).length c), (7, .pointer (some ⟨b7, 0, none⟩)), (8, .bool op), (9, .int .i64 (i : Int)), (10, .int .i64 (j : Int)), (23, .bool (decide (i < a.length ∨ j < b.length)))]) (fun s => [iCells b7 30 (edF e), iSl 30 3 edF A c acc]) (fun s => [Tab tx.1 tx.2 a b (Td.full a b)]) ?_ ?_
  · skip
    refine c_reg ?_
    refine l_q (by decide) (p_move rfl).q ?_
    refine l_q (by decide) (p_move rfl).q ?_
    refine l_q (by decide) (p_len_str Try.underlying9 rfl).q ?_
    first | refine l_q (by decide) (p_lss rfl rfl rfl rfl).q ?_ | refine l_q (by decide) (p_lssi rfl rfl).q ?_
    refine l_q (by decide) (p_move rfl).q ?_
    first | refine l_splitd (t := 18) rfl (fun h18 => ?_) (fun h18 => ?_) | refine l_splitb (t := 18) rfl (fun h18 => ?_) (fun h18 => ?_)
    · skip
      refine l_off (j := 4) rfl rfl (by first | (simp; done) | (simp [undef]; done)) (by decide) ?_
      refine l_off (j := 4) rfl rfl (by first | (simp; done) | (simp [undef]; done)) (by decide) ?_
      refine l_off (j := 4) rfl rfl (by first | (simp; done) | (simp [undef]; done)) (by decide) ?_
      refine l_off (j := 4) rfl rfl (by first | (simp; done) | (simp [undef]; done)) (by decide) ?_
      refine l_q (by decide) (p_pick rfl rfl).q ?_
      refine l_nil ?_
      refine c_join (()) ?inv ?sub ?perm ?facts
      case sub => exact ⟨rfl, rfl, rfl, rfl, rfl, rfl, rfl, rfl, (by first | rfl | exact congrArg (fun b => some (Value.bool b)) (decide_eq_true (by omega)).symm | exact congrArg (fun b => some (Value.bool b)) (decide_eq_false (by omega)).symm | exact congrArg (fun b => some (Value.bool b)) (decide_eq_decide.2 (by omega))), trivial⟩
      case perm =>
        exact .refl _
      case facts => exact fun _ h => h
      case inv =>
        trivial
    · skip
      refine l_g (j := 4) rfl rfl (by decide) (p_move rfl).q ?_
      refine l_g (j := 4) rfl rfl (by decide) (p_move rfl).q ?_
      refine l_g (j := 4) rfl rfl (by decide) (p_len_str Try.underlying9 rfl).q ?_
      first | refine l_g (j := 4) rfl rfl (by decide) (p_lss rfl rfl rfl rfl).q ?_ | refine l_g (j := 4) rfl rfl (by decide) (p_lssi rfl rfl).q ?_
      refine l_q (by decide) (p_pick rfl rfl).q ?_
      refine l_nil ?_
      refine c_join (()) ?inv ?sub ?perm ?facts
      case sub => exact ⟨rfl, rfl, rfl, rfl, rfl, rfl, rfl, rfl, (by first | rfl | exact congrArg (fun b => some (Value.bool b)) (decide_eq_true (by omega)).symm | exact congrArg (fun b => some (Value.bool b)) (decide_eq_false (by omega)).symm | exact congrArg (fun b => some (Value.bool b)) (decide_eq_decide.2 (by omega))), trivial⟩
      case perm =>
        exact .refl _
      case facts => exact fun _ h => h
      case inv =>
        trivial
  rintro uu hmeet
  show Cont _ _ _ _ [(0, str a), (1, str b), (5, .pointer (some ⟨tx.1, 0, none⟩)), (6, .slice A (acc).length c), (7, .pointer (some ⟨b7, 0, none⟩)), (8, .bool op), (9, .int .i64 (i : Int)), (10, .int .i64 (j : Int)), (23, .bool (decide (i < a.length ∨ j < b.length)))] ([iCells b7 30 (edF e), iSl 30 3 edF A c acc]) [Tab tx.1 tx.2 a b (Td.full a b)]
  first | refine c_dec rfl (fun h23 => ?_) (fun h23 => ?_) | refine c_cond rfl (fun h23 => ?_) (fun h23 => ?_)
  · skip
    refine c_skip ?_
    refine c_block ?_
    refine c_seq ?_
    refine c_seq ?_
    refine c_meetn (S := Bool) (fun s => (s = true → ∃ u, a[i]? = some u ∧ b[j]? = some u) ∧ (s = false → Td.Neq a b i j)) (fun s => [(0, str a), (1, str b), (5, .pointer (some ⟨tx.1, 0, none⟩)), (6, .slice A (acc).length c), (7, .pointer (some ⟨b7, 0, none⟩)), (8, .bool op), (9, .int .i64 (i : Int)), (10, .int .i64 (j : Int)), (42, .bool s)]) (fun s => [iCells b7 30 (edF e), iSl 30 3 edF A c acc]) (fun s => [Tab tx.1 tx.2 a b (Td.full a b)]) ?_ ?_
    · skip
      refine c_draw mixed (by decide +kernel) ?_
      refine q_q (by decide) (p_move rfl).q ?_
      refine q_q (by decide) (p_move rfl).q ?_
      refine q_q (by decide) (p_len_str Try.underlying9 rfl).q ?_
      first | refine q_q (by decide) (p_lss rfl rfl rfl rfl).q ?_ | refine q_q (by decide) (p_lssi rfl rfl).q ?_
      refine q_q (by decide) (p_move rfl).q ?_
      first | refine q_splitd (t := 28) rfl (fun h28 => ?_) (fun h28 => ?_) | refine q_splitb (t := 28) rfl (fun h28 => ?_) (fun h28 => ?_)
      · skip
        refine q_g (j := 4) rfl rfl (by decide) (p_move rfl).q ?_
        refine q_g (j := 4) rfl rfl (by decide) (p_move rfl).q ?_
        refine q_g (j := 4) rfl rfl (by decide) (p_len_str Try.underlying9 rfl).q ?_
        first | refine q_g (j := 4) rfl rfl (by decide) (p_lss rfl rfl rfl rfl).q ?_ | refine q_g (j := 4) rfl rfl (by decide) (p_lssi rfl rfl).q ?_
        refine q_q (by decide) (p_pick rfl rfl).q ?_
        refine q_q (by decide) (p_move rfl).q ?_
        first | refine q_splitd (t := 34) rfl (fun h34 => ?_) (fun h34 => ?_) | refine q_splitb (t := 34) rfl (fun h34 => ?_) (fun h34 => ?_)
        · skip
          obtain ⟨u, hu⟩ := at_some h28
          obtain ⟨u2, hu2⟩ := at_some h34
          refine q_g (j := 10) rfl rfl (by decide) (p_move rfl).q ?_
          refine q_g (j := 10) rfl rfl (by decide) (p_move rfl).q ?_
          first | refine q_g (j := 10) rfl rfl (by decide) (p_index_str Try.underlying9 rfl rfl rfl (by assumption)).q ?_ | refine q_g (j := 10) rfl rfl (by decide) (p_index_str Try.underlying9 rfl rfl rfl (by simp; rfl)).q ?_
          refine q_g (j := 10) rfl rfl (by decide) (p_move rfl).q ?_
          refine q_g (j := 10) rfl rfl (by decide) (p_move rfl).q ?_
          first | refine q_g (j := 10) rfl rfl (by decide) (p_index_str Try.underlying9 rfl rfl rfl (by assumption)).q ?_ | refine q_g (j := 10) rfl rfl (by decide) (p_index_str Try.underlying9 rfl rfl rfl (by simp; rfl)).q ?_
          first | refine q_g (j := 10) rfl rfl (by decide) (p_eql rfl rfl rfl rfl).q ?_ | refine q_g (j := 10) rfl rfl (by decide) (p_eqli rfl rfl).q ?_
          refine q_q (by decide) (p_pick rfl rfl).q ?_
          refine q_nil ?_
          refine c_join (decide (u.toNat = u2.toNat)) ?inv ?sub ?perm ?facts
          case sub => exact ⟨rfl, rfl, rfl, rfl, rfl, rfl, rfl, rfl, rfl, trivial⟩
          case perm =>
            exact .refl _
          case facts => exact fun _ h => h
          case inv =>
            exact ⟨fun h => ⟨u, hu, by rw [hu2, UInt8.toNat_inj.1 (of_decide_eq_true h)]⟩, fun h => neq_of hu hu2 (of_decide_eq_false h)⟩
        · skip
          refine q_off (j := 10) rfl rfl (by first | (simp; done) | (simp [undef]; done)) (by decide) ?_
          refine q_off (j := 10) rfl rfl (by first | (simp; done) | (simp [undef]; done)) (by decide) ?_
          refine q_off (j := 10) rfl rfl (by first | (simp; done) | (simp [undef]; done)) (by decide) ?_
          refine q_off (j := 10) rfl rfl (by first | (simp; done) | (simp [undef]; done)) (by decide) ?_
          refine q_off (j := 10) rfl rfl (by first | (simp; done) | (simp [undef]; done)) (by decide) ?_
          refine q_off (j := 10) rfl rfl (by first | (simp; done) | (simp [undef]; done)) (by decide) ?_
          refine q_off (j := 10) rfl rfl (by first | (simp; done) | (simp [undef]; done)) (by decide) ?_
          refine q_q (by decide) (p_pick rfl rfl).q ?_
          refine q_nil ?_
          refine c_join (false) ?inv ?sub ?perm ?facts
          case sub => exact ⟨rfl, rfl, rfl, rfl, rfl, rfl, rfl, rfl, rfl, trivial⟩
          case perm =>
            exact .refl _
          case facts => exact fun _ h => h
          case inv =>
            exact ⟨fun h => (by cases h), fun _ => neq_b h34⟩
      · skip
        refine q_off (j := 4) rfl rfl (by first | (simp; done) | (simp [undef]; done)) (by decide) ?_
        refine q_off (j := 4) rfl rfl (by first | (simp; done) | (simp [undef]; done)) (by decide) ?_
        refine q_off (j := 4) rfl rfl (by first | (simp; done) | (simp [undef]; done)) (by decide) ?_
        refine q_off (j := 4) rfl rfl (by first | (simp; done) | (simp [undef]; done)) (by decide) ?_
        refine q_q (by decide) (p_pick rfl rfl).q ?_
        refine q_q (by decide) (p_move rfl).q ?_
        refine q_off (j := 10) rfl rfl (by first | (simp; done) | (simp [undef]; done)) (by decide) ?_
        refine q_off (j := 10) rfl rfl (by first | (simp; done) | (simp [undef]; done)) (by decide) ?_
        refine q_off (j := 10) rfl rfl (by first | (simp; done) | (simp [undef]; done)) (by decide) ?_
        refine q_off (j := 10) rfl rfl (by first | (simp; done) | (simp [undef]; done)) (by decide) ?_
        refine q_off (j := 10) rfl rfl (by first | (simp; done) | (simp [undef]; done)) (by decide) ?_
        refine q_off (j := 10) rfl rfl (by first | (simp; done) | (simp [undef]; done)) (by decide) ?_
        refine q_off (j := 10) rfl rfl (by first | (simp; done) | (simp [undef]; done)) (by decide) ?_
        refine q_q (by decide) (p_pick rfl rfl).q ?_
        refine q_nil ?_
        refine c_join (false) ?inv ?sub ?perm ?facts
        case sub => exact ⟨rfl, rfl, rfl, rfl, rfl, rfl, rfl, rfl, rfl, trivial⟩
        case perm =>
          exact .refl _
        case facts => exact fun _ h => h
        case inv =>
          exact ⟨fun h => (by cases h), fun _ => neq_a h28⟩
    rintro mt hmeet
    have hmeet : (mt = true → ∃ u, a[i]? = some u ∧ b[j]? = some u) ∧ (mt = false → Td.Neq a b i j) := hmeet
    have hmt := hmeet
    show Cont _ _ _ _ [(0, str a), (1, str b), (5, .pointer (some ⟨tx.1, 0, none⟩)), (6, .slice A (acc).length c), (7, .pointer (some ⟨b7, 0, none⟩)), (8, .bool op), (9, .int .i64 (i : Int)), (10, .int .i64 (j : Int)), (42, .bool mt)] ([iCells b7 30 (edF e), iSl 30 3 edF A c acc]) [Tab tx.1 tx.2 a b (Td.full a b)]
    first | refine c_dec rfl (fun h42 => ?_) (fun h42 => ?_) | refine c_cond rfl (fun h42 => ?_) (fun h42 => ?_)
    · skip
      obtain ⟨u, hu, hu2⟩ := hmt.1 h42
      refine c_seq ?_
      refine c_seq ?_
      refine c_reg ?_
      refine l_q (by decide) (p_move rfl).q ?_
      refine l_nil ?_
      first | refine c_dec rfl (fun h43 => ?_) (fun h43 => ?_) | refine c_cond rfl (fun h43 => ?_) (fun h43 => ?_)
      · skip
        subst h43
        refine c_reg ?_
        refine l_q (by decide) (p_move rfl).q ?_
        first | refine l_q (by decide) (r_loada Try.underlying30 rfl inf_30 rfl (by first | exact .fact (by repeat (first | exact List.Mem.head _ | apply List.Mem.tail)) | exact .own (by repeat (first | exact List.Mem.head _ | apply List.Mem.tail)) (by decide) (fun _ => rfl)) (by assumption)).q ?_ | refine l_q (by decide) (r_loadow Try.underlying30 rfl inf_30 rfl (by repeat (first | exact List.Mem.head _ | apply List.Mem.tail)) (by rfl)).q ?_ | refine l_q (by decide) (r_loadoa Try.underlying30 rfl inf_30 rfl (by repeat (first | exact List.Mem.head _ | apply List.Mem.tail)) (by rfl) (fun j u h => h)).q ?_
        refine l_buildSlice (by decide) Try.underlying27 inf_30 (by decide) (by decide) rfl rfl rfl rfl (fun b46 => ?_)
        first | (refine l_append1 (e) (by decide) Try.underlying27 inf_30 rfl (by decide) rfl rfl rfl rfl rfl rfl (by have := hm.len; have := hm.hi; have := hm.hj; omega) (by have := hm.len; have := hm.hi; have := hm.hj; omega) (fun A47 c47 hA47 => ?_)) | (refine l_perm (.cons _ (front1 _ _ _)) ?_; refine l_append1 (e) (by decide) Try.underlying27 inf_30 rfl (by decide) rfl rfl rfl rfl rfl rfl (by have := hm.len; have := hm.hi; have := hm.hj; omega) (by have := hm.len; have := hm.hi; have := hm.hj; omega) (fun A47 c47 hA47 => ?_)) | (refine l_perm (.cons _ (front2 _ _ _ _)) ?_; refine l_append1 (e) (by decide) Try.underlying27 inf_30 rfl (by decide) rfl rfl rfl rfl rfl rfl (by have := hm.len; have := hm.hi; have := hm.hj; omega) (by have := hm.len; have := hm.hi; have := hm.hj; omega) (fun A47 c47 hA47 => ?_))
        refine l_q (by decide) (p_assign rfl).q ?_
        refine l_q (by decide) (p_assign rfl).q ?_
        refine l_nil ?_
        refine c_seq ?_
        refine c_reg ?_
        refine l_q (by decide) (p_move rfl).q ?_
        first | refine l_q (by decide) (p_add (j := 1) rfl rfl rfl rfl (by show _ ≤ (9223372036854775807 : Nat); omega)).q ?_ | refine l_q (by decide) (p_addi rfl rfl (by show (-9223372036854775808 : Int) ≤ _; omega) (by show _ ≤ ((9223372036854775807 : Nat) : Int); omega)).q ?_
        refine l_q (by decide) (p_assign rfl).q ?_
        refine l_nil ?_
        refine c_seq ?_
        refine c_reg ?_
        refine l_q (by decide) (p_move rfl).q ?_
        first | refine l_q (by decide) (p_add (j := 1) rfl rfl rfl rfl (by show _ ≤ (9223372036854775807 : Nat); omega)).q ?_ | refine l_q (by decide) (p_addi rfl rfl (by show (-9223372036854775808 : Int) ≤ _; omega) (by show _ ≤ ((9223372036854775807 : Nat) : Int); omega)).q ?_
        refine l_q (by decide) (p_assign rfl).q ?_
        refine l_nil ?_
        refine c_exit ?_
        refine c_here ?_
        refine c_join ((i + 1), (j + 1), (acc ++ [e]), (A47), (c47), (false), (e)) ?_ ?_ ?_ ?_
        · show (Td.Mid a b (i + 1) (j + 1) (acc ++ [e]) (false) (e)) ∧ (a.length - (i + 1)) + (b.length - (j + 1)) < (a.length - i) + (b.length - j)
          refine ⟨hm.same1 hu hu2, ?_⟩
          show _ < (a.length - i) + (b.length - j)
          have hmi := hm.hi
          have hmj := hm.hj
          omega
        · exact ⟨rfl, rfl, rfl, rfl, rfl, rfl, rfl, rfl, trivial⟩
        · show List.Perm _ ([iCells b7 30 (edF (e)), iSl 30 3 edF (A47) (c47) (acc ++ [e])])
          repeat (first | exact List.Perm.refl _ | refine List.Perm.cons _ ?_ | refine (front1 _ _ _).trans (List.Perm.cons _ ?_) | refine (front2 _ _ _ _).trans (List.Perm.cons _ ?_) | refine (front3 _ _ _ _ _).trans (List.Perm.cons _ ?_) | refine (front4 _ _ _ _ _ _).trans (List.Perm.cons _ ?_))
        · exact fun _ h => h
      · skip
        subst h43
        refine c_skip ?_
        refine c_seq ?_
        refine c_reg ?_
        refine l_q (by decide) (p_move rfl).q ?_
        first | refine l_q (by decide) (p_add (j := 1) rfl rfl rfl rfl (by show _ ≤ (9223372036854775807 : Nat); omega)).q ?_ | refine l_q (by decide) (p_addi rfl rfl (by show (-9223372036854775808 : Int) ≤ _; omega) (by show _ ≤ ((9223372036854775807 : Nat) : Int); omega)).q ?_
        refine l_q (by decide) (p_assign rfl).q ?_
        refine l_nil ?_
        refine c_seq ?_
        refine c_reg ?_
        refine l_q (by decide) (p_move rfl).q ?_
        first | refine l_q (by decide) (p_add (j := 1) rfl rfl rfl rfl (by show _ ≤ (9223372036854775807 : Nat); omega)).q ?_ | refine l_q (by decide) (p_addi rfl rfl (by show (-9223372036854775808 : Int) ≤ _; omega) (by show _ ≤ ((9223372036854775807 : Nat) : Int); omega)).q ?_
        refine l_q (by decide) (p_assign rfl).q ?_
        refine l_nil ?_
        refine c_exit ?_
        refine c_here ?_
        refine c_join ((i + 1), (j + 1), (acc), (A), (c), (false), (e)) ?_ ?_ ?_ ?_
        · show (Td.Mid a b (i + 1) (j + 1) (acc) (false) (e)) ∧ (a.length - (i + 1)) + (b.length - (j + 1)) < (a.length - i) + (b.length - j)
          refine ⟨hm.same0 hu hu2, ?_⟩
          show _ < (a.length - i) + (b.length - j)
          have hmi := hm.hi
          have hmj := hm.hj
          omega
        · exact ⟨rfl, rfl, rfl, rfl, rfl, rfl, rfl, rfl, trivial⟩
        · show List.Perm _ ([iCells b7 30 (edF (e)), iSl 30 3 edF (A) (c) (acc)])
          repeat (first | exact List.Perm.refl _ | refine List.Perm.cons _ ?_ | refine (front1 _ _ _).trans (List.Perm.cons _ ?_) | refine (front2 _ _ _ _).trans (List.Perm.cons _ ?_) | refine (front3 _ _ _ _ _).trans (List.Perm.cons _ ?_) | refine (front4 _ _ _ _ _ _).trans (List.Perm.cons _ ?_))
        · exact fun _ h => h
    · skip
      have hne := hmt.2 h42
      refine c_skip ?_
      refine c_seq ?_
      refine c_seq ?_
      refine c_reg ?_
      refine l_q (by decide) (p_move rfl).q ?_
      first | refine l_q (by decide) (p_notd rfl).q ?_ | refine l_q (by decide) (p_not rfl).q ?_
      refine l_nil ?_
      refine c_meetn (S := Unit) (fun s => True) (fun s => [(0, str a), (1, str b), (5, .pointer (some ⟨tx.1, 0, none⟩)), (6, .slice A (acc).length c), (7, .pointer (some ⟨b7, 0, none⟩)), (8, .bool true), (9, .int .i64 (i : Int)), (10, .int .i64 (j : Int))]) (fun s => [iCells b7 30 (edF (Td.cur i op e)), iSl 30 3 edF A c acc]) (fun s => [Tab tx.1 tx.2 a b (Td.full a b)]) ?_ ?_
      · skip
        first | refine c_dec rfl (fun h53 => ?_) (fun h53 => ?_) | refine c_cond rfl (fun h53 => ?_) (fun h53 => ?_)
        · skip
          refine c_reg ?_
          refine l_q (by decide) (p_move rfl).q ?_
          refine l_q (by decide) (p_build (cells := #[_, _, _]) inf_30 pl_30 rfl rfl).q ?_
          first | (refine l_storew inf_30 rfl rfl rfl rfl rfl ?_) | (refine l_perm (front1 _ _ _) ?_; refine l_storew inf_30 rfl rfl rfl rfl rfl ?_) | (refine l_perm (front2 _ _ _ _) ?_; refine l_storew inf_30 rfl rfl rfl rfl rfl ?_) | (refine l_perm (front3 _ _ _ _ _) ?_; refine l_storew inf_30 rfl rfl rfl rfl rfl ?_) | (refine l_perm (front4 _ _ _ _ _ _) ?_; refine l_storew inf_30 rfl rfl rfl rfl rfl ?_) | (refine l_storea inf_30 rfl rfl rfl rfl (by decide) ?_) | (refine l_perm (front1 _ _ _) ?_; refine l_storea inf_30 rfl rfl rfl rfl (by decide) ?_) | (refine l_perm (front2 _ _ _ _) ?_; refine l_storea inf_30 rfl rfl rfl rfl (by decide) ?_)
          refine l_q (by decide) (p_assign rfl).q ?_
          refine l_nil ?_
          obtain rfl : op = false := by simpa using h53
          refine c_join (()) ?inv ?sub ?perm ?facts
          case sub => exact ⟨rfl, rfl, rfl, rfl, rfl, rfl, rfl, rfl, trivial⟩
          case perm =>
            exact .refl _
          case facts => exact fun _ h => h
          case inv =>
            trivial
        · skip
          refine c_skip ?_
          obtain rfl : op = true := by simpa using h53
          refine c_join (()) ?inv ?sub ?perm ?facts
          case sub => exact ⟨rfl, rfl, rfl, rfl, rfl, rfl, rfl, rfl, trivial⟩
          case perm =>
            exact .refl _
          case facts => exact fun _ h => h
          case inv =>
            trivial
      rintro uu hmeet
      show Cont _ _ _ _ [(0, str a), (1, str b), (5, .pointer (some ⟨tx.1, 0, none⟩)), (6, .slice A (acc).length c), (7, .pointer (some ⟨b7, 0, none⟩)), (8, .bool true), (9, .int .i64 (i : Int)), (10, .int .i64 (j : Int))] ([iCells b7 30 (edF (Td.cur i op e)), iSl 30 3 edF A c acc]) [Tab tx.1 tx.2 a b (Td.full a b)]
      have hcur := hm.cur
      refine c_seq ?_
      refine c_meetn (S := Bool) (fun s => (s = true → i < a.length ∧ (¬ j < b.length ∨ Td.Dr a b (i + 1) j ≤ Td.Dr a b i (j + 1))) ∧ (s = false → j < b.length ∧ (¬ i < a.length ∨ ¬ Td.Dr a b (i + 1) j ≤ Td.Dr a b i (j + 1)))) (fun s => [(0, str a), (1, str b), (5, .pointer (some ⟨tx.1, 0, none⟩)), (6, .slice A (acc).length c), (7, .pointer (some ⟨b7, 0, none⟩)), (8, .bool true), (9, .int .i64 (i : Int)), (10, .int .i64 (j : Int)), (78, .bool s)]) (fun s => [iCells b7 30 (edF (Td.cur i op e)), iSl 30 3 edF A c acc]) (fun s => [Tab tx.1 tx.2 a b (Td.full a b)]) ?_ ?_
      · skip
        refine c_reg ?_
        refine l_q (by decide) (p_move rfl).q ?_
        refine l_q (by decide) (p_move rfl).q ?_
        refine l_q (by decide) (p_len_str Try.underlying9 rfl).q ?_
        first | refine l_q (by decide) (p_eql rfl rfl rfl rfl).q ?_ | refine l_q (by decide) (p_eqli rfl rfl).q ?_
        refine l_q (by decide) (p_move rfl).q ?_
        first | refine l_splitd (t := 60) rfl (fun h60 => ?_) (fun h60 => ?_) | refine l_splitb (t := 60) rfl (fun h60 => ?_) (fun h60 => ?_)
        · skip
          refine l_off (j := 4) rfl rfl (by first | (simp; done) | (simp [undef]; done)) (by decide) ?_
          refine l_off (j := 4) rfl rfl (by first | (simp; done) | (simp [undef]; done)) (by decide) ?_
          refine l_off (j := 4) rfl rfl (by first | (simp; done) | (simp [undef]; done)) (by decide) ?_
          refine l_off (j := 4) rfl rfl (by first | (simp; done) | (simp [undef]; done)) (by decide) ?_
          refine l_off (j := 4) rfl rfl (by first | (simp; done) | (simp [undef]; done)) (by decide) ?_
          refine l_off (j := 9) rfl rfl (by first | (simp; done) | (simp [undef]; done)) (by decide) ?_
          refine l_off (j := 9) rfl rfl (by first | (simp; done) | (simp [undef]; done)) (by decide) ?_
          refine l_off (j := 9) rfl rfl (by first | (simp; done) | (simp [undef]; done)) (by decide) ?_
          refine l_off (j := 9) rfl rfl (by first | (simp; done) | (simp [undef]; done)) (by decide) ?_
          refine l_off (j := 9) rfl rfl (by first | (simp; done) | (simp [undef]; done)) (by decide) ?_
          refine l_off (j := 9) rfl rfl (by first | (simp; done) | (simp [undef]; done)) (by decide) ?_
          refine l_off (j := 9) rfl rfl (by first | (simp; done) | (simp [undef]; done)) (by decide) ?_
          refine l_off (j := 9) rfl rfl (by first | (simp; done) | (simp [undef]; done)) (by decide) ?_
          refine l_off (j := 9) rfl rfl (by first | (simp; done) | (simp [undef]; done)) (by decide) ?_
          refine l_off (j := 9) rfl rfl (by first | (simp; done) | (simp [undef]; done)) (by decide) ?_
          refine l_off (j := 9) rfl rfl (by first | (simp; done) | (simp [undef]; done)) (by decide) ?_
          refine l_off (j := 4) rfl rfl (by first | (simp; done) | (simp [undef]; done)) (by decide) ?_
          refine l_q (by decide) (p_pick rfl rfl).q ?_
          refine l_nil ?_
          refine c_join (true) ?inv ?sub ?perm ?facts
          case sub => exact ⟨rfl, rfl, rfl, rfl, rfl, rfl, rfl, rfl, rfl, trivial⟩
          case perm =>
            exact .refl _
          case facts => exact fun _ h => h
          case inv =>
            exact ⟨fun _ => ⟨by omega, .inl (by omega)⟩, fun h => (by cases h)⟩
        · skip
          refine l_g (j := 4) rfl rfl (by decide) (p_move rfl).q ?_
          refine l_g (j := 4) rfl rfl (by decide) (p_move rfl).q ?_
          refine l_g (j := 4) rfl rfl (by decide) (p_len_str Try.underlying9 rfl).q ?_
          first | refine l_g (j := 4) rfl rfl (by decide) (p_lss rfl rfl rfl rfl).q ?_ | refine l_g (j := 4) rfl rfl (by decide) (p_lssi rfl rfl).q ?_
          refine l_g (j := 4) rfl rfl (by decide) (p_move rfl).q ?_
          first | refine l_splitd (t := 65) rfl (fun h65 => ?_) (fun h65 => ?_) | refine l_splitb (t := 65) rfl (fun h65 => ?_) (fun h65 => ?_)
          · skip
            refine l_g (j := 9) rfl rfl (by decide) (p_move rfl).q ?_
            refine l_g (j := 9) rfl rfl (by decide) (p_move rfl).q ?_
            first | refine l_g (j := 9) rfl rfl (by decide) (p_add (j := 1) rfl rfl rfl rfl (by show _ ≤ (9223372036854775807 : Nat); omega)).q ?_ | refine l_g (j := 9) rfl rfl (by decide) (p_addi rfl rfl (by show (-9223372036854775808 : Int) ≤ _; omega) (by show _ ≤ ((9223372036854775807 : Nat) : Int); omega)).q ?_
            refine l_g (j := 9) rfl rfl (by decide) (p_move rfl).q ?_
            refine l_g (j := 9) rfl rfl (by decide) (q_call call_22 rfl (fun w hs => at_ok tx.1 tx.2 a b (Td.full a b) (i + 1) (j) _ (by omega) (by omega) hbl (Td.full_dr a b (by omega) (by omega)) w (hs.facts _ (by repeat (first | exact List.Mem.head _ | apply List.Mem.tail))).1)) ?_
            refine l_g (j := 9) rfl rfl (by decide) (p_move rfl).q ?_
            refine l_g (j := 9) rfl rfl (by decide) (p_move rfl).q ?_
            refine l_g (j := 9) rfl rfl (by decide) (p_move rfl).q ?_
            first | refine l_g (j := 9) rfl rfl (by decide) (p_add (j := 1) rfl rfl rfl rfl (by show _ ≤ (9223372036854775807 : Nat); omega)).q ?_ | refine l_g (j := 9) rfl rfl (by decide) (p_addi rfl rfl (by show (-9223372036854775808 : Int) ≤ _; omega) (by show _ ≤ ((9223372036854775807 : Nat) : Int); omega)).q ?_
            refine l_g (j := 9) rfl rfl (by decide) (q_call call_22 rfl (fun w hs => at_ok tx.1 tx.2 a b (Td.full a b) (i) (j + 1) _ (by omega) (by omega) hbl (Td.full_dr a b (by omega) (by omega)) w (hs.facts _ (by repeat (first | exact List.Mem.head _ | apply List.Mem.tail))).1)) ?_
            first | refine l_g (j := 9) rfl rfl (by decide) (p_leq rfl rfl rfl rfl).q ?_ | refine l_g (j := 9) rfl rfl (by decide) (p_leqi rfl rfl).q ?_
            refine l_g (j := 4) rfl rfl (by decide) (p_pick rfl rfl).q ?_
            refine l_q (by decide) (p_pick rfl rfl).q ?_
            refine l_nil ?_
            refine c_join (decide (Td.Dr a b (i + 1) j ≤ Td.Dr a b i (j + 1))) ?inv ?sub ?perm ?facts
            case sub => exact ⟨rfl, rfl, rfl, rfl, rfl, rfl, rfl, rfl, rfl, trivial⟩
            case perm =>
              exact .refl _
            case facts => exact fun _ h => h
            case inv =>
              exact ⟨fun h => ⟨by omega, .inr (of_decide_eq_true h)⟩, fun h => ⟨by omega, .inr (of_decide_eq_false h)⟩⟩
          · skip
            refine l_off (j := 9) rfl rfl (by first | (simp; done) | (simp [undef]; done)) (by decide) ?_
            refine l_off (j := 9) rfl rfl (by first | (simp; done) | (simp [undef]; done)) (by decide) ?_
            refine l_off (j := 9) rfl rfl (by first | (simp; done) | (simp [undef]; done)) (by decide) ?_
            refine l_off (j := 9) rfl rfl (by first | (simp; done) | (simp [undef]; done)) (by decide) ?_
            refine l_off (j := 9) rfl rfl (by first | (simp; done) | (simp [undef]; done)) (by decide) ?_
            refine l_off (j := 9) rfl rfl (by first | (simp; done) | (simp [undef]; done)) (by decide) ?_
            refine l_off (j := 9) rfl rfl (by first | (simp; done) | (simp [undef]; done)) (by decide) ?_
            refine l_off (j := 9) rfl rfl (by first | (simp; done) | (simp [undef]; done)) (by decide) ?_
            refine l_off (j := 9) rfl rfl (by first | (simp; done) | (simp [undef]; done)) (by decide) ?_
            refine l_off (j := 9) rfl rfl (by first | (simp; done) | (simp [undef]; done)) (by decide) ?_
            refine l_off (j := 9) rfl rfl (by first | (simp; done) | (simp [undef]; done)) (by decide) ?_
            refine l_g (j := 4) rfl rfl (by decide) (p_pick rfl rfl).q ?_
            refine l_q (by decide) (p_pick rfl rfl).q ?_
            refine l_nil ?_
            refine c_join (false) ?inv ?sub ?perm ?facts
            case sub => exact ⟨rfl, rfl, rfl, rfl, rfl, rfl, rfl, rfl, rfl, trivial⟩
            case perm =>
              exact .refl _
            case facts => exact fun _ h => h
            case inv =>
              exact ⟨fun h => (by cases h), fun _ => ⟨by omega, .inl (by omega)⟩⟩
      rintro mt hmeet
      have hmeet : (mt = true → i < a.length ∧ (¬ j < b.length ∨ Td.Dr a b (i + 1) j ≤ Td.Dr a b i (j + 1))) ∧ (mt = false → j < b.length ∧ (¬ i < a.length ∨ ¬ Td.Dr a b (i + 1) j ≤ Td.Dr a b i (j + 1))) := hmeet
      have hmt := hmeet
      show Cont _ _ _ _ [(0, str a), (1, str b), (5, .pointer (some ⟨tx.1, 0, none⟩)), (6, .slice A (acc).length c), (7, .pointer (some ⟨b7, 0, none⟩)), (8, .bool true), (9, .int .i64 (i : Int)), (10, .int .i64 (j : Int)), (78, .bool mt)] ([iCells b7 30 (edF (Td.cur i op e)), iSl 30 3 edF A c acc]) [Tab tx.1 tx.2 a b (Td.full a b)]
      first | refine c_dec rfl (fun h78 => ?_) (fun h78 => ?_) | refine c_cond rfl (fun h78 => ?_) (fun h78 => ?_)
      · skip
        have hd := hmt.1 h78
        refine c_seq ?_
        refine c_reg ?_
        first | refine l_q (by decide) (p_faddr (i := 1) 1 Try.underlying30 rfl inf_3 (by decide) rfl rfl).q ?_ | refine l_q (by decide) (p_faddro (i := 1) 1 Try.underlying30 rfl inf_3 (by decide) rfl rfl).q ?_
        first | refine l_q (by decide) (r_loado Try.underlying3 rfl rfl (by repeat (first | exact List.Mem.head _ | apply List.Mem.tail)) (by rfl)).q ?_ | refine l_q (by decide) (r_load1 Try.underlying3 rfl rfl (by first | exact .fact (by repeat (first | exact List.Mem.head _ | apply List.Mem.tail)) | exact .own (by repeat (first | exact List.Mem.head _ | apply List.Mem.tail)) (by decide) (fun _ => rfl)) (by first | assumption | rfl) (by rfl)).q ?_ | refine l_q (by decide) (r_loadf Try.underlying3 rfl rfl (by first | exact .fact (by repeat (first | exact List.Mem.head _ | apply List.Mem.tail)) | exact .own (by repeat (first | exact List.Mem.head _ | apply List.Mem.tail)) (by decide) (fun _ => rfl)) (by assumption) (by rfl)).q ?_
        first | refine l_q (by decide) (p_add (j := 1) rfl rfl rfl rfl (by show _ ≤ (9223372036854775807 : Nat); omega)).q ?_ | refine l_q (by decide) (p_addi rfl rfl (by show (-9223372036854775808 : Int) ≤ _; omega) (by show _ ≤ ((9223372036854775807 : Nat) : Int); omega)).q ?_
        first | refine l_q (by decide) (p_faddr (i := 1) 1 Try.underlying30 rfl inf_3 (by decide) rfl rfl).q ?_ | refine l_q (by decide) (p_faddro (i := 1) 1 Try.underlying30 rfl inf_3 (by decide) rfl rfl).q ?_
        first | (refine l_store inf_3 rfl rfl rfl rfl (by first | decide | exact Nat.le_of_ble_eq_true rfl | (simp; done) | omega | (simp only [Nat.mul_one]; assumption)) ?_) | (refine l_perm (front1 _ _ _) ?_; refine l_store inf_3 rfl rfl rfl rfl (by first | decide | exact Nat.le_of_ble_eq_true rfl | (simp; done) | omega | (simp only [Nat.mul_one]; assumption)) ?_) | (refine l_perm (front2 _ _ _ _) ?_; refine l_store inf_3 rfl rfl rfl rfl (by first | decide | exact Nat.le_of_ble_eq_true rfl | (simp; done) | omega | (simp only [Nat.mul_one]; assumption)) ?_) | (refine l_perm (front3 _ _ _ _ _) ?_; refine l_store inf_3 rfl rfl rfl rfl (by first | decide | exact Nat.le_of_ble_eq_true rfl | (simp; done) | omega | (simp only [Nat.mul_one]; assumption)) ?_) | (refine l_perm (front4 _ _ _ _ _ _) ?_; refine l_store inf_3 rfl rfl rfl rfl (by first | decide | exact Nat.le_of_ble_eq_true rfl | (simp; done) | omega | (simp only [Nat.mul_one]; assumption)) ?_)
        refine l_nil ?_
        refine c_reg ?_
        refine l_q (by decide) (p_move rfl).q ?_
        first | refine l_q (by decide) (p_add (j := 1) rfl rfl rfl rfl (by show _ ≤ (9223372036854775807 : Nat); omega)).q ?_ | refine l_q (by decide) (p_addi rfl rfl (by show (-9223372036854775808 : Int) ≤ _; omega) (by show _ ≤ ((9223372036854775807 : Nat) : Int); omega)).q ?_
        refine l_q (by decide) (p_assign rfl).q ?_
        refine l_nil ?_
        refine c_join ((i + 1), (j), (acc), (A), (c), (true), (⟨(Td.cur i op e).at_, (Td.cur i op e).del + 1, (Td.cur i op e).ins⟩)) ?_ ?_ ?_ ?_
        · show (Td.Mid a b (i + 1) (j) (acc) (true) (⟨(Td.cur i op e).at_, (Td.cur i op e).del + 1, (Td.cur i op e).ins⟩)) ∧ (a.length - (i + 1)) + (b.length - (j)) < (a.length - i) + (b.length - j)
          refine ⟨hm.del' hne hd.1 hd.2, ?_⟩
          show _ < (a.length - i) + (b.length - j)
          have hmi := hm.hi
          have hmj := hm.hj
          omega
        · exact ⟨rfl, rfl, rfl, rfl, rfl, rfl, rfl, rfl, trivial⟩
        · show List.Perm _ ([iCells b7 30 (edF (⟨(Td.cur i op e).at_, (Td.cur i op e).del + 1, (Td.cur i op e).ins⟩)), iSl 30 3 edF (A) (c) (acc)])
          repeat (first | exact List.Perm.refl _ | refine List.Perm.cons _ ?_ | refine (front1 _ _ _).trans (List.Perm.cons _ ?_) | refine (front2 _ _ _ _).trans (List.Perm.cons _ ?_) | refine (front3 _ _ _ _ _).trans (List.Perm.cons _ ?_) | refine (front4 _ _ _ _ _ _).trans (List.Perm.cons _ ?_))
        · exact fun _ h => h
      · skip
        have hd := hmt.2 h78
        obtain ⟨u2, hu2⟩ := at_some hd.1
        have hone := Td.take_one' hu2
        refine c_seq ?_
        refine t_draw 9 mixed ?_
        first | refine t_take 0 rfl (by kernel_rfl) (by decide) (p_faddr (i := 2) 2 Try.underlying30 rfl inf_9 (by decide) rfl rfl).r ?_ | refine t_take 0 rfl (by kernel_rfl) (by decide) (p_faddro (i := 2) 2 Try.underlying30 rfl inf_9 (by decide) rfl rfl).r ?_
        first | refine t_take 1 rfl (by kernel_rfl) (by decide) (r_loado Try.underlying9 rfl rfl (by repeat (first | exact List.Mem.head _ | apply List.Mem.tail)) (by rfl)).r ?_ | refine t_take 1 rfl (by kernel_rfl) (by decide) (r_load1 Try.underlying9 rfl rfl (by first | exact .fact (by repeat (first | exact List.Mem.head _ | apply List.Mem.tail)) | exact .own (by repeat (first | exact List.Mem.head _ | apply List.Mem.tail)) (by decide) (fun _ => rfl)) (by first | assumption | rfl) (by rfl)).r ?_ | refine t_take 1 rfl (by kernel_rfl) (by decide) (r_loadf Try.underlying9 rfl rfl (by first | exact .fact (by repeat (first | exact List.Mem.head _ | apply List.Mem.tail)) | exact .own (by repeat (first | exact List.Mem.head _ | apply List.Mem.tail)) (by decide) (fun _ => rfl)) (by assumption) (by rfl)).r ?_
        refine t_take 2 rfl (by kernel_rfl) (by decide) (p_move rfl).r ?_
        refine t_take 3 rfl (by kernel_rfl) (by decide) (p_move rfl).r ?_
        refine t_take 4 rfl (by kernel_rfl) (by decide) (p_move rfl).r ?_
        first | refine t_take 5 rfl (by kernel_rfl) (by decide) (p_add (j := 1) rfl rfl rfl rfl (by show _ ≤ (9223372036854775807 : Nat); omega)).r ?_ | refine t_take 5 rfl (by kernel_rfl) (by decide) (p_addi rfl rfl (by show (-9223372036854775808 : Int) ≤ _; omega) (by show _ ≤ ((9223372036854775807 : Nat) : Int); omega)).r ?_
        first | refine t_take 6 rfl (by kernel_rfl) (by decide) (((p_slice_lh Try.underlying9 rfl rfl rfl rfl rfl (by omega) (by omega))).to (u := str [u2]) (by rw [hone])).r ?_ | refine t_take 6 rfl (by kernel_rfl) (by decide) (((p_slice_lh Try.underlying9 rfl rfl rfl rfl rfl (by omega) (by simp; omega))).to (u := str [u2]) (by rw [hone])).r ?_
        first | refine t_take 7 rfl (by kernel_rfl) (by decide) (p_cat rfl rfl (by omega)).r ?_ | refine t_take 7 rfl (by kernel_rfl) (by decide) (p_cat rfl rfl (by simp; omega)).r ?_
        first | refine t_take 8 rfl (by kernel_rfl) (by decide) (p_faddr (i := 2) 2 Try.underlying30 rfl inf_9 (by decide) rfl rfl).r ?_ | refine t_take 8 rfl (by kernel_rfl) (by decide) (p_faddro (i := 2) 2 Try.underlying30 rfl inf_9 (by decide) rfl rfl).r ?_
        refine t_last rfl (by kernel_rfl) ?_
        first | (refine l_store inf_9 rfl rfl rfl rfl (by first | decide | exact Nat.le_of_ble_eq_true rfl | (simp; done) | omega | (simp only [Nat.mul_one]; assumption)) ?_) | (refine l_perm (front1 _ _ _) ?_; refine l_store inf_9 rfl rfl rfl rfl (by first | decide | exact Nat.le_of_ble_eq_true rfl | (simp; done) | omega | (simp only [Nat.mul_one]; assumption)) ?_) | (refine l_perm (front2 _ _ _ _) ?_; refine l_store inf_9 rfl rfl rfl rfl (by first | decide | exact Nat.le_of_ble_eq_true rfl | (simp; done) | omega | (simp only [Nat.mul_one]; assumption)) ?_) | (refine l_perm (front3 _ _ _ _ _) ?_; refine l_store inf_9 rfl rfl rfl rfl (by first | decide | exact Nat.le_of_ble_eq_true rfl | (simp; done) | omega | (simp only [Nat.mul_one]; assumption)) ?_) | (refine l_perm (front4 _ _ _ _ _ _) ?_; refine l_store inf_9 rfl rfl rfl rfl (by first | decide | exact Nat.le_of_ble_eq_true rfl | (simp; done) | omega | (simp only [Nat.mul_one]; assumption)) ?_)
        refine l_nil ?_
        refine c_reg ?_
        refine l_q (by decide) (p_move rfl).q ?_
        first | refine l_q (by decide) (p_add (j := 1) rfl rfl rfl rfl (by show _ ≤ (9223372036854775807 : Nat); omega)).q ?_ | refine l_q (by decide) (p_addi rfl rfl (by show (-9223372036854775808 : Int) ≤ _; omega) (by show _ ≤ ((9223372036854775807 : Nat) : Int); omega)).q ?_
        refine l_q (by decide) (p_assign rfl).q ?_
        refine l_nil ?_
        refine c_join ((i), (j + 1), (acc), (A), (c), (true), (⟨(Td.cur i op e).at_, (Td.cur i op e).del, (Td.cur i op e).ins ++ [u2]⟩)) ?_ ?_ ?_ ?_
        · show (Td.Mid a b (i) (j + 1) (acc) (true) (⟨(Td.cur i op e).at_, (Td.cur i op e).del, (Td.cur i op e).ins ++ [u2]⟩)) ∧ (a.length - (i)) + (b.length - (j + 1)) < (a.length - i) + (b.length - j)
          refine ⟨hm.ins' hne hu2 hd.2, ?_⟩
          show _ < (a.length - i) + (b.length - j)
          have hmi := hm.hi
          have hmj := hm.hj
          omega
        · exact ⟨rfl, rfl, rfl, rfl, rfl, rfl, rfl, rfl, trivial⟩
        · show List.Perm _ ([iCells b7 30 (edF (⟨(Td.cur i op e).at_, (Td.cur i op e).del, (Td.cur i op e).ins ++ [u2]⟩)), iSl 30 3 edF (A) (c) (acc)])
          repeat (first | exact List.Perm.refl _ | refine List.Perm.cons _ ?_ | refine (front1 _ _ _).trans (List.Perm.cons _ ?_) | refine (front2 _ _ _ _).trans (List.Perm.cons _ ?_) | refine (front3 _ _ _ _ _).trans (List.Perm.cons _ ?_) | refine (front4 _ _ _ _ _ _).trans (List.Perm.cons _ ?_))
        · exact fun _ h => h
  · skip
    refine c_exit ?_
    refine c_here ?_
    refine c_seq ?_
    refine c_seq ?_
    refine c_reg ?_
    refine l_q (by decide) (p_move rfl).q ?_
    refine l_nil ?_
    first | refine c_dec rfl (fun h96 => ?_) (fun h96 => ?_) | refine c_cond rfl (fun h96 => ?_) (fun h96 => ?_)
    · skip
      subst h96
      refine c_reg ?_
      refine l_q (by decide) (p_move rfl).q ?_
      first | refine l_q (by decide) (r_loada Try.underlying30 rfl inf_30 rfl (by first | exact .fact (by repeat (first | exact List.Mem.head _ | apply List.Mem.tail)) | exact .own (by repeat (first | exact List.Mem.head _ | apply List.Mem.tail)) (by decide) (fun _ => rfl)) (by assumption)).q ?_ | refine l_q (by decide) (r_loadow Try.underlying30 rfl inf_30 rfl (by repeat (first | exact List.Mem.head _ | apply List.Mem.tail)) (by rfl)).q ?_ | refine l_q (by decide) (r_loadoa Try.underlying30 rfl inf_30 rfl (by repeat (first | exact List.Mem.head _ | apply List.Mem.tail)) (by rfl) (fun j u h => h)).q ?_
      refine l_buildSlice (by decide) Try.underlying27 inf_30 (by decide) (by decide) rfl rfl rfl rfl (fun b99 => ?_)
      first | (refine l_append1 (e) (by decide) Try.underlying27 inf_30 rfl (by decide) rfl rfl rfl rfl rfl rfl (by have := hm.len; have := hm.hi; have := hm.hj; omega) (by have := hm.len; have := hm.hi; have := hm.hj; omega) (fun A100 c100 hA100 => ?_)) | (refine l_perm (.cons _ (front1 _ _ _)) ?_; refine l_append1 (e) (by decide) Try.underlying27 inf_30 rfl (by decide) rfl rfl rfl rfl rfl rfl (by have := hm.len; have := hm.hi; have := hm.hj; omega) (by have := hm.len; have := hm.hi; have := hm.hj; omega) (fun A100 c100 hA100 => ?_)) | (refine l_perm (.cons _ (front2 _ _ _ _)) ?_; refine l_append1 (e) (by decide) Try.underlying27 inf_30 rfl (by decide) rfl rfl rfl rfl rfl rfl (by have := hm.len; have := hm.hi; have := hm.hj; omega) (by have := hm.len; have := hm.hi; have := hm.hj; omega) (fun A100 c100 hA100 => ?_))
      refine l_q (by decide) (p_assign rfl).q ?_
      refine l_nil ?_
      refine c_seq ?_
      refine c_reg ?_
      refine l_q (by decide) (p_move rfl).q ?_
      refine l_q (by decide) (p_assign rfl).q ?_
      refine l_nil ?_
      refine c_ret ?_
      refine c_ret1 rfl rfl (fun w hs => ?_)
      rw [hm.end1 (by omega) (by omega)]
      have g := hs.give (e := 30) (size := 3) (f := edF) (es := acc ++ [e]) (by repeat (first | exact List.Mem.head _ | apply List.Mem.tail)) (by decide) len_edF
      exact ⟨(_, _), rfl, g.1, g.2.1, hs.ext⟩
    · skip
      subst h96
      refine c_skip ?_
      refine c_seq ?_
      refine c_reg ?_
      refine l_q (by decide) (p_move rfl).q ?_
      refine l_q (by decide) (p_assign rfl).q ?_
      refine l_nil ?_
      refine c_ret ?_
      refine c_ret1 rfl rfl (fun w hs => ?_)
      rw [hm.end0 (by omega) (by omega)]
      have g := hs.give (e := 30) (size := 3) (f := edF) (es := acc) (by repeat (first | exact List.Mem.head _ | apply List.Mem.tail)) (by decide) len_edF
      exact ⟨(_, _), rfl, g.1, g.2.1, hs.ext⟩

theorem diff2_ok (a b : List UInt8) (hal : a.length ≤ 1000) (hbl : b.length ≤ 1000) (w : World) :
    Calls Try.prog 16 #[str a, str b] w (Ret fun v w' => ∃ x : Option Addr × Nat, v = .slice x.1 (Td.diff a b).length x.2 ∧ Sl 3 edF x.1 (Td.diff a b) w' ∧ Dep w.heap.size w'.heap.size (Sl 3 edF x.1 (Td.diff a b)) ∧ Ext [] w w') := by
  refine calls_fx (l := [str a, str b]) Try.func16 rfl Try.ntmps16 (Nat.le_of_ble_eq_true rfl) (St.start w) ?_
  refine c_seq ?_
  refine c_reg ?_
  refine l_q (by decide) (p_assign rfl).q ?_
  refine l_nil ?_
  refine c_seq ?_
  refine c_reg ?_
  refine l_q (by decide) (p_move rfl).q ?_
  refine l_q (by decide) (p_move rfl).q ?_
  refine l_call (X := Nat) (fun x => .slice (some ⟨x, 0, none⟩) (Td.full a b).length ((a.length + 1) * (b.length + 1))) (fun x => Sl 1 natF (some ⟨x, 0, none⟩) (Td.full a b)) (by decide) call_23 rfl (fun w hs => table_ok a b hal hbl w) (fun tx => ?_)
  refine l_q (by decide) (p_assign rfl).q ?_
  refine l_nil ?_
  refine c_seq ?_
  refine c_reg ?_
  refine l_q (by decide) (p_move rfl).q ?_
  refine l_q (by decide) (p_len_str Try.underlying9 rfl).q ?_
  first | refine l_q (by decide) (p_add (j := 1) rfl rfl rfl rfl (by show _ ≤ (9223372036854775807 : Nat); omega)).q ?_ | refine l_q (by decide) (p_addi rfl rfl (by show (-9223372036854775808 : Int) ≤ _; omega) (by show _ ≤ ((9223372036854775807 : Nat) : Int); omega)).q ?_
  refine l_q (by decide) (p_assign rfl).q ?_
  refine l_nil ?_
  refine c_seq ?_
  refine c_reg ?_
  refine l_q (by decide) (p_assign rfl).q ?_
  refine l_nil ?_
  refine c_seq ?_
  refine c_reg ?_
  refine l_q (by decide) (p_build (cells := #[_, _, _]) inf_30 pl_30 rfl rfl).q ?_
  refine l_alloc (by decide) inf_30 _ rfl (fun b8 => ?_)
  first | (refine l_storew inf_30 rfl rfl rfl rfl rfl ?_) | (refine l_perm (front1 _ _ _) ?_; refine l_storew inf_30 rfl rfl rfl rfl rfl ?_) | (refine l_perm (front2 _ _ _ _) ?_; refine l_storew inf_30 rfl rfl rfl rfl rfl ?_) | (refine l_perm (front3 _ _ _ _ _) ?_; refine l_storew inf_30 rfl rfl rfl rfl rfl ?_) | (refine l_perm (front4 _ _ _ _ _ _) ?_; refine l_storew inf_30 rfl rfl rfl rfl rfl ?_) | (refine l_storea inf_30 rfl rfl rfl rfl (by decide) ?_) | (refine l_perm (front1 _ _ _) ?_; refine l_storea inf_30 rfl rfl rfl rfl (by decide) ?_) | (refine l_perm (front2 _ _ _ _) ?_; refine l_storea inf_30 rfl rfl rfl rfl (by decide) ?_)
  refine l_nil ?_
  refine c_seq ?_
  refine c_reg ?_
  refine l_q (by decide) (p_assign rfl).q ?_
  refine l_nil ?_
  refine c_seq ?_
  refine c_reg ?_
  refine l_q (by decide) (p_assign (v := .int .i64 ((0 : Nat) : Int)) rfl).q ?_
  refine l_q (by decide) (p_assign (v := .int .i64 ((0 : Nat) : Int)) rfl).q ?_
  refine l_nil ?_
  refine c_seq ?_
  refine c_block ?_
  refine c_sl0 30 3 edF ?_
  refine c_loop (S := Nat × Nat × List Td.E × Option Addr × Nat × Bool × Td.E) (fun s => Td.Mid a b s.1 s.2.1 s.2.2.1 s.2.2.2.2.2.1 s.2.2.2.2.2.2) (fun s => (a.length - s.1) + (b.length - s.2.1)) (fun s => [(0, str a), (1, str b), (5, .slice (some ⟨tx, 0, none⟩) (Td.full a b).length ((a.length + 1) * (b.length + 1))), (6, .int .i64 ((b.length + 1 : Nat) : Int)), (7, .slice s.2.2.2.1 (s.2.2.1).length s.2.2.2.2.1), (8, .pointer (some ⟨b8, 0, none⟩)), (9, .bool s.2.2.2.2.2.1), (10, .int .i64 (s.1 : Int)), (11, .int .i64 (s.2.1 : Int))]) (fun s => [iCells b8 30 (edF s.2.2.2.2.2.2), iSl 30 3 edF s.2.2.2.1 s.2.2.2.2.1 s.2.2.1]) (fun s => [Sl 1 natF (some ⟨tx, 0, none⟩) (Td.full a b)]) (0, 0, [], none, 0, false, ⟨0, 0, []⟩) ?_ ?_ ?_ ?_ ?_
  · show Td.Mid a b (0) (0) ([]) (false) (⟨0, 0, []⟩)
    exact Td.Mid.start a b _
  · exact ⟨rfl, rfl, rfl, rfl, rfl, rfl, rfl, rfl, rfl, trivial⟩
  · exact by repeat (first | exact List.Perm.refl _ | refine List.Perm.cons _ ?_ | refine (front1 _ _ _).trans (List.Perm.cons _ ?_) | refine (front2 _ _ _ _).trans (List.Perm.cons _ ?_) | refine (front3 _ _ _ _ _).trans (List.Perm.cons _ ?_) | refine (front4 _ _ _ _ _ _).trans (List.Perm.cons _ ?_))
  · exact fun _ h => h
  rintro ⟨i, j, acc, A, c, op, e⟩ hinv
  have hinv : Td.Mid a b i j acc op e := hinv
  have hm := hinv
  have hmi := hm.hi
  have hmj := hm.hj
  show Cont _ _ _ _ [(0, str a), (1, str b), (5, .slice (some ⟨tx, 0, none⟩) (Td.full a b).length ((a.length + 1) * (b.length + 1))), (6, .int .i64 ((b.length + 1 : Nat) : Int)), (7, .slice A (acc).length c), (8, .pointer (some ⟨b8, 0, none⟩)), (9, .bool op), (10, .int .i64 (i : Int)), (11, .int .i64 (j : Int))] ([iCells b8 30 (edF e), iSl 30 3 edF A c acc]) [Sl 1 natF (some ⟨tx, 0, none⟩) (Td.full a b)]
  refine c_seq ?_
  refine c_seq ?_
  refine c_meetn (S := Unit) (fun s => True) (fun s => [(0, str a), (1, str b), (5, .slice (some ⟨tx, 0, none⟩) (Td.full a b).length ((a.length + 1) * (b.length + 1))), (6, .int .i64 ((b.length + 1 : Nat) : Int)), (7, .slice A (acc).length c), (8, .pointer (some ⟨b8, 0, none⟩)), (9, .bool op), (10, .int .i64 (i : Int)), (11, .int .i64 (j : Int)), (28, .bool (decide (i < a.length ∨ j < b.length)))]) (fun s => [iCells b8 30 (edF e), iSl 30 3 edF A c acc]) (fun s => [Sl 1 natF (some ⟨tx, 0, none⟩) (Td.full a b)]) ?_ ?_
  · skip
    refine c_reg ?_
    refine l_q (by decide) (p_move rfl).q ?_
    refine l_q (by decide) (p_move rfl).q ?_
    refine l_q (by decide) (p_len_str Try.underlying9 rfl).q ?_
    first | refine l_q (by decide) (p_lss rfl rfl rfl rfl).q ?_ | refine l_q (by decide) (p_lssi rfl rfl).q ?_
    refine l_q (by decide) (p_move rfl).q ?_
    first | refine l_splitd (t := 23) rfl (fun h23 => ?_) (fun h23 => ?_) | refine l_splitb (t := 23) rfl (fun h23 => ?_) (fun h23 => ?_)
    · skip
      refine l_off (j := 4) rfl rfl (by first | (simp; done) | (simp [undef]; done)) (by decide) ?_
      refine l_off (j := 4) rfl rfl (by first | (simp; done) | (simp [undef]; done)) (by decide) ?_
      refine l_off (j := 4) rfl rfl (by first | (simp; done) | (simp [undef]; done)) (by decide) ?_
      refine l_off (j := 4) rfl rfl (by first | (simp; done) | (simp [undef]; done)) (by decide) ?_
      refine l_q (by decide) (p_pick rfl rfl).q ?_
      refine l_nil ?_
      refine c_join (()) ?inv ?sub ?perm ?facts
      case sub => exact ⟨rfl, rfl, rfl, rfl, rfl, rfl, rfl, rfl, rfl, (by first | rfl | exact congrArg (fun b => some (Value.bool b)) (decide_eq_true (by omega)).symm | exact congrArg (fun b => some (Value.bool b)) (decide_eq_false (by omega)).symm | exact congrArg (fun b => some (Value.bool b)) (decide_eq_decide.2 (by omega))), trivial⟩
      case perm =>
        exact .refl _
      case facts => exact fun _ h => h
      case inv =>
        trivial
    · skip
      refine l_g (j := 4) rfl rfl (by decide) (p_move rfl).q ?_
      refine l_g (j := 4) rfl rfl (by decide) (p_move rfl).q ?_
      refine l_g (j := 4) rfl rfl (by decide) (p_len_str Try.underlying9 rfl).q ?_
      first | refine l_g (j := 4) rfl rfl (by decide) (p_lss rfl rfl rfl rfl).q ?_ | refine l_g (j := 4) rfl rfl (by decide) (p_lssi rfl rfl).q ?_
      refine l_q (by decide) (p_pick rfl rfl).q ?_
      refine l_nil ?_
      refine c_join (()) ?inv ?sub ?perm ?facts
      case sub => exact ⟨rfl, rfl, rfl, rfl, rfl, rfl, rfl, rfl, rfl, (by first | rfl | exact congrArg (fun b => some (Value.bool b)) (decide_eq_true (by omega)).symm | exact congrArg (fun b => some (Value.bool b)) (decide_eq_false (by omega)).symm | exact congrArg (fun b => some (Value.bool b)) (decide_eq_decide.2 (by omega))), trivial⟩
      case perm =>
        exact .refl _
      case facts => exact fun _ h => h
      case inv =>
        trivial
  rintro uu hmeet
  show Cont _ _ _ _ [(0, str a), (1, str b), (5, .slice (some ⟨tx, 0, none⟩) (Td.full a b).length ((a.length + 1) * (b.length + 1))), (6, .int .i64 ((b.length + 1 : Nat) : Int)), (7, .slice A (acc).length c), (8, .pointer (some ⟨b8, 0, none⟩)), (9, .bool op), (10, .int .i64 (i : Int)), (11, .int .i64 (j : Int)), (28, .bool (decide (i < a.length ∨ j < b.length)))] ([iCells b8 30 (edF e), iSl 30 3 edF A c acc]) [Sl 1 natF (some ⟨tx, 0, none⟩) (Td.full a b)]
  first | refine c_dec rfl (fun h28 => ?_) (fun h28 => ?_) | refine c_cond rfl (fun h28 => ?_) (fun h28 => ?_)
  · skip
    refine c_skip ?_
    refine c_block ?_
    refine c_seq ?_
    refine c_seq ?_
    refine c_meetn (S := Bool) (fun s => (s = true → ∃ u, a[i]? = some u ∧ b[j]? = some u) ∧ (s = false → Td.Neq a b i j)) (fun s => [(0, str a), (1, str b), (5, .slice (some ⟨tx, 0, none⟩) (Td.full a b).length ((a.length + 1) * (b.length + 1))), (6, .int .i64 ((b.length + 1 : Nat) : Int)), (7, .slice A (acc).length c), (8, .pointer (some ⟨b8, 0, none⟩)), (9, .bool op), (10, .int .i64 (i : Int)), (11, .int .i64 (j : Int)), (47, .bool s)]) (fun s => [iCells b8 30 (edF e), iSl 30 3 edF A c acc]) (fun s => [Sl 1 natF (some ⟨tx, 0, none⟩) (Td.full a b)]) ?_ ?_
    · skip
      refine c_draw mixed (by decide +kernel) ?_
      refine q_q (by decide) (p_move rfl).q ?_
      refine q_q (by decide) (p_move rfl).q ?_
      refine q_q (by decide) (p_len_str Try.underlying9 rfl).q ?_
      first | refine q_q (by decide) (p_lss rfl rfl rfl rfl).q ?_ | refine q_q (by decide) (p_lssi rfl rfl).q ?_
      refine q_q (by decide) (p_move rfl).q ?_
      first | refine q_splitd (t := 33) rfl (fun h33 => ?_) (fun h33 => ?_) | refine q_splitb (t := 33) rfl (fun h33 => ?_) (fun h33 => ?_)
      · skip
        refine q_g (j := 4) rfl rfl (by decide) (p_move rfl).q ?_
        refine q_g (j := 4) rfl rfl (by decide) (p_move rfl).q ?_
        refine q_g (j := 4) rfl rfl (by decide) (p_len_str Try.underlying9 rfl).q ?_
        first | refine q_g (j := 4) rfl rfl (by decide) (p_lss rfl rfl rfl rfl).q ?_ | refine q_g (j := 4) rfl rfl (by decide) (p_lssi rfl rfl).q ?_
        refine q_q (by decide) (p_pick rfl rfl).q ?_
        refine q_q (by decide) (p_move rfl).q ?_
        first | refine q_splitd (t := 39) rfl (fun h39 => ?_) (fun h39 => ?_) | refine q_splitb (t := 39) rfl (fun h39 => ?_) (fun h39 => ?_)
        · skip
          obtain ⟨u, hu⟩ := at_some h33
          obtain ⟨u2, hu2⟩ := at_some h39
          refine q_g (j := 10) rfl rfl (by decide) (p_move rfl).q ?_
          refine q_g (j := 10) rfl rfl (by decide) (p_move rfl).q ?_
          first | refine q_g (j := 10) rfl rfl (by decide) (p_index_str Try.underlying9 rfl rfl rfl (by assumption)).q ?_ | refine q_g (j := 10) rfl rfl (by decide) (p_index_str Try.underlying9 rfl rfl rfl (by simp; rfl)).q ?_
          refine q_g (j := 10) rfl rfl (by decide) (p_move rfl).q ?_
          refine q_g (j := 10) rfl rfl (by decide) (p_move rfl).q ?_
          first | refine q_g (j := 10) rfl rfl (by decide) (p_index_str Try.underlying9 rfl rfl rfl (by assumption)).q ?_ | refine q_g (j := 10) rfl rfl (by decide) (p_index_str Try.underlying9 rfl rfl rfl (by simp; rfl)).q ?_
          first | refine q_g (j := 10) rfl rfl (by decide) (p_eql rfl rfl rfl rfl).q ?_ | refine q_g (j := 10) rfl rfl (by decide) (p_eqli rfl rfl).q ?_
          refine q_q (by decide) (p_pick rfl rfl).q ?_
          refine q_nil ?_
          refine c_join (decide (u.toNat = u2.toNat)) ?inv ?sub ?perm ?facts
          case sub => exact ⟨rfl, rfl, rfl, rfl, rfl, rfl, rfl, rfl, rfl, rfl, trivial⟩
          case perm =>
            exact .refl _
          case facts => exact fun _ h => h
          case inv =>
            exact ⟨fun h => ⟨u, hu, by rw [hu2, UInt8.toNat_inj.1 (of_decide_eq_true h)]⟩, fun h => neq_of hu hu2 (of_decide_eq_false h)⟩
        · skip
          refine q_off (j := 10) rfl rfl (by first | (simp; done) | (simp [undef]; done)) (by decide) ?_
          refine q_off (j := 10) rfl rfl (by first | (simp; done) | (simp [undef]; done)) (by decide) ?_
          refine q_off (j := 10) rfl rfl (by first | (simp; done) | (simp [undef]; done)) (by decide) ?_
          refine q_off (j := 10) rfl rfl (by first | (simp; done) | (simp [undef]; done)) (by decide) ?_
          refine q_off (j := 10) rfl rfl (by first | (simp; done) | (simp [undef]; done)) (by decide) ?_
          refine q_off (j := 10) rfl rfl (by first | (simp; done) | (simp [undef]; done)) (by decide) ?_
          refine q_off (j := 10) rfl rfl (by first | (simp; done) | (simp [undef]; done)) (by decide) ?_
          refine q_q (by decide) (p_pick rfl rfl).q ?_
          refine q_nil ?_
          refine c_join (false) ?inv ?sub ?perm ?facts
          case sub => exact ⟨rfl, rfl, rfl, rfl, rfl, rfl, rfl, rfl, rfl, rfl, trivial⟩
          case perm =>
            exact .refl _
          case facts => exact fun _ h => h
          case inv =>
            exact ⟨fun h => (by cases h), fun _ => neq_b h39⟩
      · skip
        refine q_off (j := 4) rfl rfl (by first | (simp; done) | (simp [undef]; done)) (by decide) ?_
        refine q_off (j := 4) rfl rfl (by first | (simp; done) | (simp [undef]; done)) (by decide) ?_
        refine q_off (j := 4) rfl rfl (by first | (simp; done) | (simp [undef]; done)) (by decide) ?_
        refine q_off (j := 4) rfl rfl (by first | (simp; done) | (simp [undef]; done)) (by decide) ?_
        refine q_q (by decide) (p_pick rfl rfl).q ?_
        refine q_q (by decide) (p_move rfl).q ?_
        refine q_off (j := 10) rfl rfl (by first | (simp; done) | (simp [undef]; done)) (by decide) ?_
        refine q_off (j := 10) rfl rfl (by first | (simp; done) | (simp [undef]; done)) (by decide) ?_
        refine q_off (j := 10) rfl rfl (by first | (simp; done) | (simp [undef]; done)) (by decide) ?_
        refine q_off (j := 10) rfl rfl (by first | (simp; done) | (simp [undef]; done)) (by decide) ?_
        refine q_off (j := 10) rfl rfl (by first | (simp; done) | (simp [undef]; done)) (by decide) ?_
        refine q_off (j := 10) rfl rfl (by first | (simp; done) | (simp [undef]; done)) (by decide) ?_
        refine q_off (j := 10) rfl rfl (by first | (simp; done) | (simp [undef]; done)) (by decide) ?_
        refine q_q (by decide) (p_pick rfl rfl).q ?_
        refine q_nil ?_
        refine c_join (false) ?inv ?sub ?perm ?facts
        case sub => exact ⟨rfl, rfl, rfl, rfl, rfl, rfl, rfl, rfl, rfl, rfl, trivial⟩
        case perm =>
          exact .refl _
        case facts => exact fun _ h => h
        case inv =>
          exact ⟨fun h => (by cases h), fun _ => neq_a h33⟩
    rintro mt hmeet
    have hmeet : (mt = true → ∃ u, a[i]? = some u ∧ b[j]? = some u) ∧ (mt = false → Td.Neq a b i j) := hmeet
    have hmt := hmeet
    show Cont _ _ _ _ [(0, str a), (1, str b), (5, .slice (some ⟨tx, 0, none⟩) (Td.full a b).length ((a.length + 1) * (b.length + 1))), (6, .int .i64 ((b.length + 1 : Nat) : Int)), (7, .slice A (acc).length c), (8, .pointer (some ⟨b8, 0, none⟩)), (9, .bool op), (10, .int .i64 (i : Int)), (11, .int .i64 (j : Int)), (47, .bool mt)] ([iCells b8 30 (edF e), iSl 30 3 edF A c acc]) [Sl 1 natF (some ⟨tx, 0, none⟩) (Td.full a b)]
    first | refine c_dec rfl (fun h47 => ?_) (fun h47 => ?_) | refine c_cond rfl (fun h47 => ?_) (fun h47 => ?_)
    · skip
      obtain ⟨u, hu, hu2⟩ := hmt.1 h47
      refine c_seq ?_
      refine c_seq ?_
      refine c_reg ?_
      refine l_q (by decide) (p_move rfl).q ?_
      refine l_nil ?_
      first | refine c_dec rfl (fun h48 => ?_) (fun h48 => ?_) | refine c_cond rfl (fun h48 => ?_) (fun h48 => ?_)
      · skip
        subst h48
        refine c_seq ?_
        refine c_reg ?_
        refine l_q (by decide) (p_move rfl).q ?_
        first | refine l_q (by decide) (r_loada Try.underlying30 rfl inf_30 rfl (by first | exact .fact (by repeat (first | exact List.Mem.head _ | apply List.Mem.tail)) | exact .own (by repeat (first | exact List.Mem.head _ | apply List.Mem.tail)) (by decide) (fun _ => rfl)) (by assumption)).q ?_ | refine l_q (by decide) (r_loadow Try.underlying30 rfl inf_30 rfl (by repeat (first | exact List.Mem.head _ | apply List.Mem.tail)) (by rfl)).q ?_ | refine l_q (by decide) (r_loadoa Try.underlying30 rfl inf_30 rfl (by repeat (first | exact List.Mem.head _ | apply List.Mem.tail)) (by rfl) (fun j u h => h)).q ?_
        refine l_buildSlice (by decide) Try.underlying27 inf_30 (by decide) (by decide) rfl rfl rfl rfl (fun b51 => ?_)
        first | (refine l_append1 (e) (by decide) Try.underlying27 inf_30 rfl (by decide) rfl rfl rfl rfl rfl rfl (by have := hm.len; have := hm.hi; have := hm.hj; omega) (by have := hm.len; have := hm.hi; have := hm.hj; omega) (fun A52 c52 hA52 => ?_)) | (refine l_perm (.cons _ (front1 _ _ _)) ?_; refine l_append1 (e) (by decide) Try.underlying27 inf_30 rfl (by decide) rfl rfl rfl rfl rfl rfl (by have := hm.len; have := hm.hi; have := hm.hj; omega) (by have := hm.len; have := hm.hi; have := hm.hj; omega) (fun A52 c52 hA52 => ?_)) | (refine l_perm (.cons _ (front2 _ _ _ _)) ?_; refine l_append1 (e) (by decide) Try.underlying27 inf_30 rfl (by decide) rfl rfl rfl rfl rfl rfl (by have := hm.len; have := hm.hi; have := hm.hj; omega) (by have := hm.len; have := hm.hi; have := hm.hj; omega) (fun A52 c52 hA52 => ?_))
        refine l_q (by decide) (p_assign rfl).q ?_
        refine l_nil ?_
        refine c_reg ?_
        refine l_q (by decide) (p_assign rfl).q ?_
        refine l_nil ?_
        refine c_seq ?_
        refine c_reg ?_
        refine l_q (by decide) (p_move rfl).q ?_
        first | refine l_q (by decide) (p_add (j := 1) rfl rfl rfl rfl (by show _ ≤ (9223372036854775807 : Nat); omega)).q ?_ | refine l_q (by decide) (p_addi rfl rfl (by show (-9223372036854775808 : Int) ≤ _; omega) (by show _ ≤ ((9223372036854775807 : Nat) : Int); omega)).q ?_
        refine l_q (by decide) (p_move rfl).q ?_
        first | refine l_q (by decide) (p_add (j := 1) rfl rfl rfl rfl (by show _ ≤ (9223372036854775807 : Nat); omega)).q ?_ | refine l_q (by decide) (p_addi rfl rfl (by show (-9223372036854775808 : Int) ≤ _; omega) (by show _ ≤ ((9223372036854775807 : Nat) : Int); omega)).q ?_
        refine l_q (by decide) (p_assign rfl).q ?_
        refine l_q (by decide) (p_assign rfl).q ?_
        refine l_nil ?_
        refine c_exit ?_
        refine c_here ?_
        refine c_join ((i + 1), (j + 1), (acc ++ [e]), (A52), (c52), (false), (e)) ?_ ?_ ?_ ?_
        · show (Td.Mid a b (i + 1) (j + 1) (acc ++ [e]) (false) (e)) ∧ (a.length - (i + 1)) + (b.length - (j + 1)) < (a.length - i) + (b.length - j)
          refine ⟨hm.same1 hu hu2, ?_⟩
          show _ < (a.length - i) + (b.length - j)
          have hmi := hm.hi
          have hmj := hm.hj
          omega
        · exact ⟨rfl, rfl, rfl, rfl, rfl, rfl, rfl, rfl, rfl, trivial⟩
        · show List.Perm _ ([iCells b8 30 (edF (e)), iSl 30 3 edF (A52) (c52) (acc ++ [e])])
          repeat (first | exact List.Perm.refl _ | refine List.Perm.cons _ ?_ | refine (front1 _ _ _).trans (List.Perm.cons _ ?_) | refine (front2 _ _ _ _).trans (List.Perm.cons _ ?_) | refine (front3 _ _ _ _ _).trans (List.Perm.cons _ ?_) | refine (front4 _ _ _ _ _ _).trans (List.Perm.cons _ ?_))
        · exact fun _ h => h
      · skip
        subst h48
        refine c_skip ?_
        refine c_seq ?_
        refine c_reg ?_
        refine l_q (by decide) (p_move rfl).q ?_
        first | refine l_q (by decide) (p_add (j := 1) rfl rfl rfl rfl (by show _ ≤ (9223372036854775807 : Nat); omega)).q ?_ | refine l_q (by decide) (p_addi rfl rfl (by show (-9223372036854775808 : Int) ≤ _; omega) (by show _ ≤ ((9223372036854775807 : Nat) : Int); omega)).q ?_
        refine l_q (by decide) (p_move rfl).q ?_
        first | refine l_q (by decide) (p_add (j := 1) rfl rfl rfl rfl (by show _ ≤ (9223372036854775807 : Nat); omega)).q ?_ | refine l_q (by decide) (p_addi rfl rfl (by show (-9223372036854775808 : Int) ≤ _; omega) (by show _ ≤ ((9223372036854775807 : Nat) : Int); omega)).q ?_
        refine l_q (by decide) (p_assign rfl).q ?_
        refine l_q (by decide) (p_assign rfl).q ?_
        refine l_nil ?_
        refine c_exit ?_
        refine c_here ?_
        refine c_join ((i + 1), (j + 1), (acc), (A), (c), (false), (e)) ?_ ?_ ?_ ?_
        · show (Td.Mid a b (i + 1) (j + 1) (acc) (false) (e)) ∧ (a.length - (i + 1)) + (b.length - (j + 1)) < (a.length - i) + (b.length - j)
          refine ⟨hm.same0 hu hu2, ?_⟩
          show _ < (a.length - i) + (b.length - j)
          have hmi := hm.hi
          have hmj := hm.hj
          omega
        · exact ⟨rfl, rfl, rfl, rfl, rfl, rfl, rfl, rfl, rfl, trivial⟩
        · show List.Perm _ ([iCells b8 30 (edF (e)), iSl 30 3 edF (A) (c) (acc)])
          repeat (first | exact List.Perm.refl _ | refine List.Perm.cons _ ?_ | refine (front1 _ _ _).trans (List.Perm.cons _ ?_) | refine (front2 _ _ _ _).trans (List.Perm.cons _ ?_) | refine (front3 _ _ _ _ _).trans (List.Perm.cons _ ?_) | refine (front4 _ _ _ _ _ _).trans (List.Perm.cons _ ?_))
        · exact fun _ h => h
    · skip
      have hne := hmt.2 h47
      refine c_skip ?_
      refine c_seq ?_
      refine c_seq ?_
      refine c_reg ?_
      refine l_q (by decide) (p_move rfl).q ?_
      first | refine l_q (by decide) (p_notd rfl).q ?_ | refine l_q (by decide) (p_not rfl).q ?_
      refine l_nil ?_
      refine c_meetn (S := Unit) (fun s => True) (fun s => [(0, str a), (1, str b), (5, .slice (some ⟨tx, 0, none⟩) (Td.full a b).length ((a.length + 1) * (b.length + 1))), (6, .int .i64 ((b.length + 1 : Nat) : Int)), (7, .slice A (acc).length c), (8, .pointer (some ⟨b8, 0, none⟩)), (9, .bool true), (10, .int .i64 (i : Int)), (11, .int .i64 (j : Int))]) (fun s => [iCells b8 30 (edF (Td.cur i op e)), iSl 30 3 edF A c acc]) (fun s => [Sl 1 natF (some ⟨tx, 0, none⟩) (Td.full a b)]) ?_ ?_
      · skip
        first | refine c_dec rfl (fun h58 => ?_) (fun h58 => ?_) | refine c_cond rfl (fun h58 => ?_) (fun h58 => ?_)
        · skip
          refine c_seq ?_
          refine c_reg ?_
          refine l_q (by decide) (p_move rfl).q ?_
          refine l_q (by decide) (p_build (cells := #[_, _, _]) inf_30 pl_30 rfl rfl).q ?_
          first | (refine l_storew inf_30 rfl rfl rfl rfl rfl ?_) | (refine l_perm (front1 _ _ _) ?_; refine l_storew inf_30 rfl rfl rfl rfl rfl ?_) | (refine l_perm (front2 _ _ _ _) ?_; refine l_storew inf_30 rfl rfl rfl rfl rfl ?_) | (refine l_perm (front3 _ _ _ _ _) ?_; refine l_storew inf_30 rfl rfl rfl rfl rfl ?_) | (refine l_perm (front4 _ _ _ _ _ _) ?_; refine l_storew inf_30 rfl rfl rfl rfl rfl ?_) | (refine l_storea inf_30 rfl rfl rfl rfl (by decide) ?_) | (refine l_perm (front1 _ _ _) ?_; refine l_storea inf_30 rfl rfl rfl rfl (by decide) ?_) | (refine l_perm (front2 _ _ _ _) ?_; refine l_storea inf_30 rfl rfl rfl rfl (by decide) ?_)
          refine l_nil ?_
          refine c_reg ?_
          refine l_q (by decide) (p_assign rfl).q ?_
          refine l_nil ?_
          obtain rfl : op = false := by simpa using h58
          refine c_join (()) ?inv ?sub ?perm ?facts
          case sub => exact ⟨rfl, rfl, rfl, rfl, rfl, rfl, rfl, rfl, rfl, trivial⟩
          case perm =>
            exact .refl _
          case facts => exact fun _ h => h
          case inv =>
            trivial
        · skip
          refine c_skip ?_
          obtain rfl : op = true := by simpa using h58
          refine c_join (()) ?inv ?sub ?perm ?facts
          case sub => exact ⟨rfl, rfl, rfl, rfl, rfl, rfl, rfl, rfl, rfl, trivial⟩
          case perm =>
            exact .refl _
          case facts => exact fun _ h => h
          case inv =>
            trivial
      rintro uu hmeet
      show Cont _ _ _ _ [(0, str a), (1, str b), (5, .slice (some ⟨tx, 0, none⟩) (Td.full a b).length ((a.length + 1) * (b.length + 1))), (6, .int .i64 ((b.length + 1 : Nat) : Int)), (7, .slice A (acc).length c), (8, .pointer (some ⟨b8, 0, none⟩)), (9, .bool true), (10, .int .i64 (i : Int)), (11, .int .i64 (j : Int))] ([iCells b8 30 (edF (Td.cur i op e)), iSl 30 3 edF A c acc]) [Sl 1 natF (some ⟨tx, 0, none⟩) (Td.full a b)]
      have hcur := hm.cur
      refine c_seq ?_
      refine c_meetn (S := Bool) (fun s => (s = true → i < a.length ∧ (¬ j < b.length ∨ Td.Dr a b (i + 1) j ≤ Td.Dr a b i (j + 1))) ∧ (s = false → j < b.length ∧ (¬ i < a.length ∨ ¬ Td.Dr a b (i + 1) j ≤ Td.Dr a b i (j + 1)))) (fun s => [(0, str a), (1, str b), (5, .slice (some ⟨tx, 0, none⟩) (Td.full a b).length ((a.length + 1) * (b.length + 1))), (6, .int .i64 ((b.length + 1 : Nat) : Int)), (7, .slice A (acc).length c), (8, .pointer (some ⟨b8, 0, none⟩)), (9, .bool true), (10, .int .i64 (i : Int)), (11, .int .i64 (j : Int)), (91, .bool s)]) (fun s => [iCells b8 30 (edF (Td.cur i op e)), iSl 30 3 edF A c acc]) (fun s => [Sl 1 natF (some ⟨tx, 0, none⟩) (Td.full a b)]) ?_ ?_
      · skip
        refine c_draw mixed (by decide +kernel) ?_
        refine q_q (by decide) (p_move rfl).q ?_
        refine q_q (by decide) (p_move rfl).q ?_
        refine q_q (by decide) (p_len_str Try.underlying9 rfl).q ?_
        first | refine q_q (by decide) (p_eql rfl rfl rfl rfl).q ?_ | refine q_q (by decide) (p_eqli rfl rfl).q ?_
        refine q_q (by decide) (p_move rfl).q ?_
        first | refine q_splitd (t := 65) rfl (fun h65 => ?_) (fun h65 => ?_) | refine q_splitb (t := 65) rfl (fun h65 => ?_) (fun h65 => ?_)
        · skip
          refine q_off (j := 4) rfl rfl (by first | (simp; done) | (simp [undef]; done)) (by decide) ?_
          refine q_off (j := 4) rfl rfl (by first | (simp; done) | (simp [undef]; done)) (by decide) ?_
          refine q_off (j := 4) rfl rfl (by first | (simp; done) | (simp [undef]; done)) (by decide) ?_
          refine q_off (j := 4) rfl rfl (by first | (simp; done) | (simp [undef]; done)) (by decide) ?_
          refine q_off (j := 4) rfl rfl (by first | (simp; done) | (simp [undef]; done)) (by decide) ?_
          refine q_off (j := 9) rfl rfl (by first | (simp; done) | (simp [undef]; done)) (by decide) ?_
          refine q_off (j := 9) rfl rfl (by first | (simp; done) | (simp [undef]; done)) (by decide) ?_
          refine q_off (j := 9) rfl rfl (by first | (simp; done) | (simp [undef]; done)) (by decide) ?_
          refine q_off (j := 9) rfl rfl (by first | (simp; done) | (simp [undef]; done)) (by decide) ?_
          refine q_off (j := 9) rfl rfl (by first | (simp; done) | (simp [undef]; done)) (by decide) ?_
          refine q_off (j := 9) rfl rfl (by first | (simp; done) | (simp [undef]; done)) (by decide) ?_
          refine q_off (j := 9) rfl rfl (by first | (simp; done) | (simp [undef]; done)) (by decide) ?_
          refine q_off (j := 9) rfl rfl (by first | (simp; done) | (simp [undef]; done)) (by decide) ?_
          refine q_off (j := 9) rfl rfl (by first | (simp; done) | (simp [undef]; done)) (by decide) ?_
          refine q_off (j := 9) rfl rfl (by first | (simp; done) | (simp [undef]; done)) (by decide) ?_
          refine q_off (j := 9) rfl rfl (by first | (simp; done) | (simp [undef]; done)) (by decide) ?_
          refine q_off (j := 9) rfl rfl (by first | (simp; done) | (simp [undef]; done)) (by decide) ?_
          refine q_off (j := 9) rfl rfl (by first | (simp; done) | (simp [undef]; done)) (by decide) ?_
          refine q_off (j := 9) rfl rfl (by first | (simp; done) | (simp [undef]; done)) (by decide) ?_
          refine q_off (j := 9) rfl rfl (by first | (simp; done) | (simp [undef]; done)) (by decide) ?_
          refine q_off (j := 9) rfl rfl (by first | (simp; done) | (simp [undef]; done)) (by decide) ?_
          refine q_off (j := 9) rfl rfl (by first | (simp; done) | (simp [undef]; done)) (by decide) ?_
          refine q_off (j := 9) rfl rfl (by first | (simp; done) | (simp [undef]; done)) (by decide) ?_
          refine q_off (j := 9) rfl rfl (by first | (simp; done) | (simp [undef]; done)) (by decide) ?_
          refine q_off (j := 4) rfl rfl (by first | (simp; done) | (simp [undef]; done)) (by decide) ?_
          refine q_q (by decide) (p_pick rfl rfl).q ?_
          refine q_nil ?_
          refine c_join (true) ?inv ?sub ?perm ?facts
          case sub => exact ⟨rfl, rfl, rfl, rfl, rfl, rfl, rfl, rfl, rfl, rfl, trivial⟩
          case perm =>
            exact .refl _
          case facts => exact fun _ h => h
          case inv =>
            exact ⟨fun _ => ⟨by omega, .inl (by omega)⟩, fun h => (by cases h)⟩
        · skip
          refine q_g (j := 4) rfl rfl (by decide) (p_move rfl).q ?_
          refine q_g (j := 4) rfl rfl (by decide) (p_move rfl).q ?_
          refine q_g (j := 4) rfl rfl (by decide) (p_len_str Try.underlying9 rfl).q ?_
          first | refine q_g (j := 4) rfl rfl (by decide) (p_lss rfl rfl rfl rfl).q ?_ | refine q_g (j := 4) rfl rfl (by decide) (p_lssi rfl rfl).q ?_
          refine q_g (j := 4) rfl rfl (by decide) (p_move rfl).q ?_
          first | refine q_splitd (t := 70) rfl (fun h70 => ?_) (fun h70 => ?_) | refine q_splitb (t := 70) rfl (fun h70 => ?_) (fun h70 => ?_)
          · skip
            have hy1 := Td.full_dr a b (i := i + 1) (j := j) (by omega) (by omega)
            have hy2 : (Td.full a b)[i * (b.length + 1) + j + 1]? = some (Td.Dr a b i (j + 1)) := Td.full_dr a b (i := i) (j := j + 1) (by omega) (by omega)
            have hk1 := (List.getElem?_eq_some_iff.1 hy1).1
            have hk2 := (List.getElem?_eq_some_iff.1 hy2).1
            have hlf := Td.length_full a b
            have hN : (a.length + 1) * (b.length + 1) ≤ 1001 * 1001 := Nat.mul_le_mul (by omega) (by omega)
            refine q_g (j := 9) rfl rfl (by decide) (p_move rfl).q ?_
            refine q_g (j := 9) rfl rfl (by decide) (p_move rfl).q ?_
            first | refine q_g (j := 9) rfl rfl (by decide) (p_add (j := 1) rfl rfl rfl rfl (by show _ ≤ (9223372036854775807 : Nat); omega)).q ?_ | refine q_g (j := 9) rfl rfl (by decide) (p_addi rfl rfl (by show (-9223372036854775808 : Int) ≤ _; omega) (by show _ ≤ ((9223372036854775807 : Nat) : Int); omega)).q ?_
            refine q_g (j := 9) rfl rfl (by decide) (p_move rfl).q ?_
            refine q_g (j := 9) rfl rfl (by decide) (p_mul rfl rfl rfl rfl (by show _ ≤ (9223372036854775807 : Nat); omega)).q ?_
            refine q_g (j := 9) rfl rfl (by decide) (p_move rfl).q ?_
            first | refine q_g (j := 9) rfl rfl (by decide) (p_add rfl rfl rfl rfl (by show _ ≤ (9223372036854775807 : Nat); omega)).q ?_ | refine q_g (j := 9) rfl rfl (by decide) (p_addi rfl rfl (by show (-9223372036854775808 : Int) ≤ _; omega) (by show _ ≤ ((9223372036854775807 : Nat) : Int); omega)).q ?_
            first | refine q_g (j := 9) rfl rfl (by decide) (r_index Try.underlying41 inf_3 rfl rfl rfl (by first | exact .fact (by repeat (first | exact List.Mem.head _ | apply List.Mem.tail)) | exact .own (by repeat (first | exact List.Mem.head _ | apply List.Mem.tail)) (by decide) (fun _ => rfl)) rfl (by omega)).q ?_ | refine q_g (j := 9) rfl rfl (by decide) (r_index Try.underlying41 inf_3 rfl rfl rfl (by first | exact .fact (by repeat (first | exact List.Mem.head _ | apply List.Mem.tail)) | exact .own (by repeat (first | exact List.Mem.head _ | apply List.Mem.tail)) (by decide) (fun _ => rfl)) rfl (by decide)).q ?_ | refine q_g (j := 9) rfl rfl (by decide) (p_indexo Try.underlying41 inf_3 rfl rfl rfl (by omega)).q ?_
            first | refine q_g (j := 9) rfl rfl (by decide) (r_loado Try.underlying3 rfl rfl (by repeat (first | exact List.Mem.head _ | apply List.Mem.tail)) (by rfl)).q ?_ | refine q_g (j := 9) rfl rfl (by decide) (r_load1 Try.underlying3 rfl rfl (by first | exact .fact (by repeat (first | exact List.Mem.head _ | apply List.Mem.tail)) | exact .own (by repeat (first | exact List.Mem.head _ | apply List.Mem.tail)) (by decide) (fun _ => rfl)) (by first | assumption | rfl) (by rfl)).q ?_ | refine q_g (j := 9) rfl rfl (by decide) (r_loadf Try.underlying3 rfl rfl (by first | exact .fact (by repeat (first | exact List.Mem.head _ | apply List.Mem.tail)) | exact .own (by repeat (first | exact List.Mem.head _ | apply List.Mem.tail)) (by decide) (fun _ => rfl)) (by assumption) (by rfl)).q ?_
            refine q_g (j := 9) rfl rfl (by decide) (p_move rfl).q ?_
            refine q_g (j := 9) rfl rfl (by decide) (p_move rfl).q ?_
            refine q_g (j := 9) rfl rfl (by decide) (p_move rfl).q ?_
            refine q_g (j := 9) rfl rfl (by decide) (p_mul rfl rfl rfl rfl (by show _ ≤ (9223372036854775807 : Nat); omega)).q ?_
            refine q_g (j := 9) rfl rfl (by decide) (p_move rfl).q ?_
            first | refine q_g (j := 9) rfl rfl (by decide) (p_add rfl rfl rfl rfl (by show _ ≤ (9223372036854775807 : Nat); omega)).q ?_ | refine q_g (j := 9) rfl rfl (by decide) (p_addi rfl rfl (by show (-9223372036854775808 : Int) ≤ _; omega) (by show _ ≤ ((9223372036854775807 : Nat) : Int); omega)).q ?_
            first | refine q_g (j := 9) rfl rfl (by decide) (p_add (j := 1) rfl rfl rfl rfl (by show _ ≤ (9223372036854775807 : Nat); omega)).q ?_ | refine q_g (j := 9) rfl rfl (by decide) (p_addi rfl rfl (by show (-9223372036854775808 : Int) ≤ _; omega) (by show _ ≤ ((9223372036854775807 : Nat) : Int); omega)).q ?_
            first | refine q_g (j := 9) rfl rfl (by decide) (r_index Try.underlying41 inf_3 rfl rfl rfl (by first | exact .fact (by repeat (first | exact List.Mem.head _ | apply List.Mem.tail)) | exact .own (by repeat (first | exact List.Mem.head _ | apply List.Mem.tail)) (by decide) (fun _ => rfl)) rfl (by omega)).q ?_ | refine q_g (j := 9) rfl rfl (by decide) (r_index Try.underlying41 inf_3 rfl rfl rfl (by first | exact .fact (by repeat (first | exact List.Mem.head _ | apply List.Mem.tail)) | exact .own (by repeat (first | exact List.Mem.head _ | apply List.Mem.tail)) (by decide) (fun _ => rfl)) rfl (by decide)).q ?_ | refine q_g (j := 9) rfl rfl (by decide) (p_indexo Try.underlying41 inf_3 rfl rfl rfl (by omega)).q ?_
            first | refine q_g (j := 9) rfl rfl (by decide) (r_loado Try.underlying3 rfl rfl (by repeat (first | exact List.Mem.head _ | apply List.Mem.tail)) (by rfl)).q ?_ | refine q_g (j := 9) rfl rfl (by decide) (r_load1 Try.underlying3 rfl rfl (by first | exact .fact (by repeat (first | exact List.Mem.head _ | apply List.Mem.tail)) | exact .own (by repeat (first | exact List.Mem.head _ | apply List.Mem.tail)) (by decide) (fun _ => rfl)) (by first | assumption | rfl) (by rfl)).q ?_ | refine q_g (j := 9) rfl rfl (by decide) (r_loadf Try.underlying3 rfl rfl (by first | exact .fact (by repeat (first | exact List.Mem.head _ | apply List.Mem.tail)) | exact .own (by repeat (first | exact List.Mem.head _ | apply List.Mem.tail)) (by decide) (fun _ => rfl)) (by assumption) (by rfl)).q ?_
            first | refine q_g (j := 9) rfl rfl (by decide) (p_leq rfl rfl rfl rfl).q ?_ | refine q_g (j := 9) rfl rfl (by decide) (p_leqi rfl rfl).q ?_
            refine q_g (j := 4) rfl rfl (by decide) (p_pick rfl rfl).q ?_
            refine q_q (by decide) (p_pick rfl rfl).q ?_
            refine q_nil ?_
            refine c_join (decide (Td.Dr a b (i + 1) j ≤ Td.Dr a b i (j + 1))) ?inv ?sub ?perm ?facts
            case sub => exact ⟨rfl, rfl, rfl, rfl, rfl, rfl, rfl, rfl, rfl, rfl, trivial⟩
            case perm =>
              exact .refl _
            case facts => exact fun _ h => h
            case inv =>
              exact ⟨fun h => ⟨by omega, .inr (of_decide_eq_true h)⟩, fun h => ⟨by omega, .inr (of_decide_eq_false h)⟩⟩
          · skip
            refine q_off (j := 9) rfl rfl (by first | (simp; done) | (simp [undef]; done)) (by decide) ?_
            refine q_off (j := 9) rfl rfl (by first | (simp; done) | (simp [undef]; done)) (by decide) ?_
            refine q_off (j := 9) rfl rfl (by first | (simp; done) | (simp [undef]; done)) (by decide) ?_
            refine q_off (j := 9) rfl rfl (by first | (simp; done) | (simp [undef]; done)) (by decide) ?_
            refine q_off (j := 9) rfl rfl (by first | (simp; done) | (simp [undef]; done)) (by decide) ?_
            refine q_off (j := 9) rfl rfl (by first | (simp; done) | (simp [undef]; done)) (by decide) ?_
            refine q_off (j := 9) rfl rfl (by first | (simp; done) | (simp [undef]; done)) (by decide) ?_
            refine q_off (j := 9) rfl rfl (by first | (simp; done) | (simp [undef]; done)) (by decide) ?_
            refine q_off (j := 9) rfl rfl (by first | (simp; done) | (simp [undef]; done)) (by decide) ?_
            refine q_off (j := 9) rfl rfl (by first | (simp; done) | (simp [undef]; done)) (by decide) ?_
            refine q_off (j := 9) rfl rfl (by first | (simp; done) | (simp [undef]; done)) (by decide) ?_
            refine q_off (j := 9) rfl rfl (by first | (simp; done) | (simp [undef]; done)) (by decide) ?_
            refine q_off (j := 9) rfl rfl (by first | (simp; done) | (simp [undef]; done)) (by decide) ?_
            refine q_off (j := 9) rfl rfl (by first | (simp; done) | (simp [undef]; done)) (by decide) ?_
            refine q_off (j := 9) rfl rfl (by first | (simp; done) | (simp [undef]; done)) (by decide) ?_
            refine q_off (j := 9) rfl rfl (by first | (simp; done) | (simp [undef]; done)) (by decide) ?_
            refine q_off (j := 9) rfl rfl (by first | (simp; done) | (simp [undef]; done)) (by decide) ?_
            refine q_off (j := 9) rfl rfl (by first | (simp; done) | (simp [undef]; done)) (by decide) ?_
            refine q_off (j := 9) rfl rfl (by first | (simp; done) | (simp [undef]; done)) (by decide) ?_
            refine q_g (j := 4) rfl rfl (by decide) (p_pick rfl rfl).q ?_
            refine q_q (by decide) (p_pick rfl rfl).q ?_
            refine q_nil ?_
            refine c_join (false) ?inv ?sub ?perm ?facts
            case sub => exact ⟨rfl, rfl, rfl, rfl, rfl, rfl, rfl, rfl, rfl, rfl, trivial⟩
            case perm =>
              exact .refl _
            case facts => exact fun _ h => h
            case inv =>
              exact ⟨fun h => (by cases h), fun _ => ⟨by omega, .inl (by omega)⟩⟩
      rintro mt hmeet
      have hmeet : (mt = true → i < a.length ∧ (¬ j < b.length ∨ Td.Dr a b (i + 1) j ≤ Td.Dr a b i (j + 1))) ∧ (mt = false → j < b.length ∧ (¬ i < a.length ∨ ¬ Td.Dr a b (i + 1) j ≤ Td.Dr a b i (j + 1))) := hmeet
      have hmt := hmeet
      show Cont _ _ _ _ [(0, str a), (1, str b), (5, .slice (some ⟨tx, 0, none⟩) (Td.full a b).length ((a.length + 1) * (b.length + 1))), (6, .int .i64 ((b.length + 1 : Nat) : Int)), (7, .slice A (acc).length c), (8, .pointer (some ⟨b8, 0, none⟩)), (9, .bool true), (10, .int .i64 (i : Int)), (11, .int .i64 (j : Int)), (91, .bool mt)] ([iCells b8 30 (edF (Td.cur i op e)), iSl 30 3 edF A c acc]) [Sl 1 natF (some ⟨tx, 0, none⟩) (Td.full a b)]
      first | refine c_dec rfl (fun h91 => ?_) (fun h91 => ?_) | refine c_cond rfl (fun h91 => ?_) (fun h91 => ?_)
      · skip
        have hd := hmt.1 h91
        refine c_seq ?_
        refine c_reg ?_
        first | refine l_q (by decide) (p_faddr (i := 1) 1 Try.underlying30 rfl inf_3 (by decide) rfl rfl).q ?_ | refine l_q (by decide) (p_faddro (i := 1) 1 Try.underlying30 rfl inf_3 (by decide) rfl rfl).q ?_
        first | refine l_q (by decide) (r_loado Try.underlying3 rfl rfl (by repeat (first | exact List.Mem.head _ | apply List.Mem.tail)) (by rfl)).q ?_ | refine l_q (by decide) (r_load1 Try.underlying3 rfl rfl (by first | exact .fact (by repeat (first | exact List.Mem.head _ | apply List.Mem.tail)) | exact .own (by repeat (first | exact List.Mem.head _ | apply List.Mem.tail)) (by decide) (fun _ => rfl)) (by first | assumption | rfl) (by rfl)).q ?_ | refine l_q (by decide) (r_loadf Try.underlying3 rfl rfl (by first | exact .fact (by repeat (first | exact List.Mem.head _ | apply List.Mem.tail)) | exact .own (by repeat (first | exact List.Mem.head _ | apply List.Mem.tail)) (by decide) (fun _ => rfl)) (by assumption) (by rfl)).q ?_
        first | refine l_q (by decide) (p_add (j := 1) rfl rfl rfl rfl (by show _ ≤ (9223372036854775807 : Nat); omega)).q ?_ | refine l_q (by decide) (p_addi rfl rfl (by show (-9223372036854775808 : Int) ≤ _; omega) (by show _ ≤ ((9223372036854775807 : Nat) : Int); omega)).q ?_
        first | refine l_q (by decide) (p_faddr (i := 1) 1 Try.underlying30 rfl inf_3 (by decide) rfl rfl).q ?_ | refine l_q (by decide) (p_faddro (i := 1) 1 Try.underlying30 rfl inf_3 (by decide) rfl rfl).q ?_
        first | (refine l_store inf_3 rfl rfl rfl rfl (by first | decide | exact Nat.le_of_ble_eq_true rfl | (simp; done) | omega | (simp only [Nat.mul_one]; assumption)) ?_) | (refine l_perm (front1 _ _ _) ?_; refine l_store inf_3 rfl rfl rfl rfl (by first | decide | exact Nat.le_of_ble_eq_true rfl | (simp; done) | omega | (simp only [Nat.mul_one]; assumption)) ?_) | (refine l_perm (front2 _ _ _ _) ?_; refine l_store inf_3 rfl rfl rfl rfl (by first | decide | exact Nat.le_of_ble_eq_true rfl | (simp; done) | omega | (simp only [Nat.mul_one]; assumption)) ?_) | (refine l_perm (front3 _ _ _ _ _) ?_; refine l_store inf_3 rfl rfl rfl rfl (by first | decide | exact Nat.le_of_ble_eq_true rfl | (simp; done) | omega | (simp only [Nat.mul_one]; assumption)) ?_) | (refine l_perm (front4 _ _ _ _ _ _) ?_; refine l_store inf_3 rfl rfl rfl rfl (by first | decide | exact Nat.le_of_ble_eq_true rfl | (simp; done) | omega | (simp only [Nat.mul_one]; assumption)) ?_)
        refine l_nil ?_
        refine c_reg ?_
        refine l_q (by decide) (p_move rfl).q ?_
        first | refine l_q (by decide) (p_add (j := 1) rfl rfl rfl rfl (by show _ ≤ (9223372036854775807 : Nat); omega)).q ?_ | refine l_q (by decide) (p_addi rfl rfl (by show (-9223372036854775808 : Int) ≤ _; omega) (by show _ ≤ ((9223372036854775807 : Nat) : Int); omega)).q ?_
        refine l_q (by decide) (p_assign rfl).q ?_
        refine l_nil ?_
        refine c_join ((i + 1), (j), (acc), (A), (c), (true), (⟨(Td.cur i op e).at_, (Td.cur i op e).del + 1, (Td.cur i op e).ins⟩)) ?_ ?_ ?_ ?_
        · show (Td.Mid a b (i + 1) (j) (acc) (true) (⟨(Td.cur i op e).at_, (Td.cur i op e).del + 1, (Td.cur i op e).ins⟩)) ∧ (a.length - (i + 1)) + (b.length - (j)) < (a.length - i) + (b.length - j)
          refine ⟨hm.del' hne hd.1 hd.2, ?_⟩
          show _ < (a.length - i) + (b.length - j)
          have hmi := hm.hi
          have hmj := hm.hj
          omega
        · exact ⟨rfl, rfl, rfl, rfl, rfl, rfl, rfl, rfl, rfl, trivial⟩
        · show List.Perm _ ([iCells b8 30 (edF (⟨(Td.cur i op e).at_, (Td.cur i op e).del + 1, (Td.cur i op e).ins⟩)), iSl 30 3 edF (A) (c) (acc)])
          repeat (first | exact List.Perm.refl _ | refine List.Perm.cons _ ?_ | refine (front1 _ _ _).trans (List.Perm.cons _ ?_) | refine (front2 _ _ _ _).trans (List.Perm.cons _ ?_) | refine (front3 _ _ _ _ _).trans (List.Perm.cons _ ?_) | refine (front4 _ _ _ _ _ _).trans (List.Perm.cons _ ?_))
        · exact fun _ h => h
      · skip
        have hd := hmt.2 h91
        obtain ⟨u2, hu2⟩ := at_some hd.1
        have hone := Td.take_one' hu2
        refine c_seq ?_
        refine t_draw 9 mixed ?_
        first | refine t_take 0 rfl (by kernel_rfl) (by decide) (p_faddr (i := 2) 2 Try.underlying30 rfl inf_9 (by decide) rfl rfl).r ?_ | refine t_take 0 rfl (by kernel_rfl) (by decide) (p_faddro (i := 2) 2 Try.underlying30 rfl inf_9 (by decide) rfl rfl).r ?_
        first | refine t_take 1 rfl (by kernel_rfl) (by decide) (r_loado Try.underlying9 rfl rfl (by repeat (first | exact List.Mem.head _ | apply List.Mem.tail)) (by rfl)).r ?_ | refine t_take 1 rfl (by kernel_rfl) (by decide) (r_load1 Try.underlying9 rfl rfl (by first | exact .fact (by repeat (first | exact List.Mem.head _ | apply List.Mem.tail)) | exact .own (by repeat (first | exact List.Mem.head _ | apply List.Mem.tail)) (by decide) (fun _ => rfl)) (by first | assumption | rfl) (by rfl)).r ?_ | refine t_take 1 rfl (by kernel_rfl) (by decide) (r_loadf Try.underlying9 rfl rfl (by first | exact .fact (by repeat (first | exact List.Mem.head _ | apply List.Mem.tail)) | exact .own (by repeat (first | exact List.Mem.head _ | apply List.Mem.tail)) (by decide) (fun _ => rfl)) (by assumption) (by rfl)).r ?_
        refine t_take 2 rfl (by kernel_rfl) (by decide) (p_move rfl).r ?_
        refine t_take 3 rfl (by kernel_rfl) (by decide) (p_move rfl).r ?_
        refine t_take 4 rfl (by kernel_rfl) (by decide) (p_move rfl).r ?_
        first | refine t_take 5 rfl (by kernel_rfl) (by decide) (p_add (j := 1) rfl rfl rfl rfl (by show _ ≤ (9223372036854775807 : Nat); omega)).r ?_ | refine t_take 5 rfl (by kernel_rfl) (by decide) (p_addi rfl rfl (by show (-9223372036854775808 : Int) ≤ _; omega) (by show _ ≤ ((9223372036854775807 : Nat) : Int); omega)).r ?_
        first | refine t_take 6 rfl (by kernel_rfl) (by decide) (((p_slice_lh Try.underlying9 rfl rfl rfl rfl rfl (by omega) (by omega))).to (u := str [u2]) (by rw [hone])).r ?_ | refine t_take 6 rfl (by kernel_rfl) (by decide) (((p_slice_lh Try.underlying9 rfl rfl rfl rfl rfl (by omega) (by simp; omega))).to (u := str [u2]) (by rw [hone])).r ?_
        first | refine t_take 7 rfl (by kernel_rfl) (by decide) (p_cat rfl rfl (by omega)).r ?_ | refine t_take 7 rfl (by kernel_rfl) (by decide) (p_cat rfl rfl (by simp; omega)).r ?_
        first | refine t_take 8 rfl (by kernel_rfl) (by decide) (p_faddr (i := 2) 2 Try.underlying30 rfl inf_9 (by decide) rfl rfl).r ?_ | refine t_take 8 rfl (by kernel_rfl) (by decide) (p_faddro (i := 2) 2 Try.underlying30 rfl inf_9 (by decide) rfl rfl).r ?_
        refine t_last rfl (by kernel_rfl) ?_
        first | (refine l_store inf_9 rfl rfl rfl rfl (by first | decide | exact Nat.le_of_ble_eq_true rfl | (simp; done) | omega | (simp only [Nat.mul_one]; assumption)) ?_) | (refine l_perm (front1 _ _ _) ?_; refine l_store inf_9 rfl rfl rfl rfl (by first | decide | exact Nat.le_of_ble_eq_true rfl | (simp; done) | omega | (simp only [Nat.mul_one]; assumption)) ?_) | (refine l_perm (front2 _ _ _ _) ?_; refine l_store inf_9 rfl rfl rfl rfl (by first | decide | exact Nat.le_of_ble_eq_true rfl | (simp; done) | omega | (simp only [Nat.mul_one]; assumption)) ?_) | (refine l_perm (front3 _ _ _ _ _) ?_; refine l_store inf_9 rfl rfl rfl rfl (by first | decide | exact Nat.le_of_ble_eq_true rfl | (simp; done) | omega | (simp only [Nat.mul_one]; assumption)) ?_) | (refine l_perm (front4 _ _ _ _ _ _) ?_; refine l_store inf_9 rfl rfl rfl rfl (by first | decide | exact Nat.le_of_ble_eq_true rfl | (simp; done) | omega | (simp only [Nat.mul_one]; assumption)) ?_)
        refine l_nil ?_
        refine c_reg ?_
        refine l_q (by decide) (p_move rfl).q ?_
        first | refine l_q (by decide) (p_add (j := 1) rfl rfl rfl rfl (by show _ ≤ (9223372036854775807 : Nat); omega)).q ?_ | refine l_q (by decide) (p_addi rfl rfl (by show (-9223372036854775808 : Int) ≤ _; omega) (by show _ ≤ ((9223372036854775807 : Nat) : Int); omega)).q ?_
        refine l_q (by decide) (p_assign rfl).q ?_
        refine l_nil ?_
        refine c_join ((i), (j + 1), (acc), (A), (c), (true), (⟨(Td.cur i op e).at_, (Td.cur i op e).del, (Td.cur i op e).ins ++ [u2]⟩)) ?_ ?_ ?_ ?_
        · show (Td.Mid a b (i) (j + 1) (acc) (true) (⟨(Td.cur i op e).at_, (Td.cur i op e).del, (Td.cur i op e).ins ++ [u2]⟩)) ∧ (a.length - (i)) + (b.length - (j + 1)) < (a.length - i) + (b.length - j)
          refine ⟨hm.ins' hne hu2 hd.2, ?_⟩
          show _ < (a.length - i) + (b.length - j)
          have hmi := hm.hi
          have hmj := hm.hj
          omega
        · exact ⟨rfl, rfl, rfl, rfl, rfl, rfl, rfl, rfl, rfl, trivial⟩
        · show List.Perm _ ([iCells b8 30 (edF (⟨(Td.cur i op e).at_, (Td.cur i op e).del, (Td.cur i op e).ins ++ [u2]⟩)), iSl 30 3 edF (A) (c) (acc)])
          repeat (first | exact List.Perm.refl _ | refine List.Perm.cons _ ?_ | refine (front1 _ _ _).trans (List.Perm.cons _ ?_) | refine (front2 _ _ _ _).trans (List.Perm.cons _ ?_) | refine (front3 _ _ _ _ _).trans (List.Perm.cons _ ?_) | refine (front4 _ _ _ _ _ _).trans (List.Perm.cons _ ?_))
        · exact fun _ h => h
  · skip
    refine c_exit ?_
    refine c_here ?_
    refine c_seq ?_
    refine c_seq ?_
    refine c_reg ?_
    refine l_q (by decide) (p_move rfl).q ?_
    refine l_nil ?_
    first | refine c_dec rfl (fun h109 => ?_) (fun h109 => ?_) | refine c_cond rfl (fun h109 => ?_) (fun h109 => ?_)
    · skip
      subst h109
      refine c_reg ?_
      refine l_q (by decide) (p_move rfl).q ?_
      first | refine l_q (by decide) (r_loada Try.underlying30 rfl inf_30 rfl (by first | exact .fact (by repeat (first | exact List.Mem.head _ | apply List.Mem.tail)) | exact .own (by repeat (first | exact List.Mem.head _ | apply List.Mem.tail)) (by decide) (fun _ => rfl)) (by assumption)).q ?_ | refine l_q (by decide) (r_loadow Try.underlying30 rfl inf_30 rfl (by repeat (first | exact List.Mem.head _ | apply List.Mem.tail)) (by rfl)).q ?_ | refine l_q (by decide) (r_loadoa Try.underlying30 rfl inf_30 rfl (by repeat (first | exact List.Mem.head _ | apply List.Mem.tail)) (by rfl) (fun j u h => h)).q ?_
      refine l_buildSlice (by decide) Try.underlying27 inf_30 (by decide) (by decide) rfl rfl rfl rfl (fun b112 => ?_)
      first | (refine l_append1 (e) (by decide) Try.underlying27 inf_30 rfl (by decide) rfl rfl rfl rfl rfl rfl (by have := hm.len; have := hm.hi; have := hm.hj; omega) (by have := hm.len; have := hm.hi; have := hm.hj; omega) (fun A113 c113 hA113 => ?_)) | (refine l_perm (.cons _ (front1 _ _ _)) ?_; refine l_append1 (e) (by decide) Try.underlying27 inf_30 rfl (by decide) rfl rfl rfl rfl rfl rfl (by have := hm.len; have := hm.hi; have := hm.hj; omega) (by have := hm.len; have := hm.hi; have := hm.hj; omega) (fun A113 c113 hA113 => ?_)) | (refine l_perm (.cons _ (front2 _ _ _ _)) ?_; refine l_append1 (e) (by decide) Try.underlying27 inf_30 rfl (by decide) rfl rfl rfl rfl rfl rfl (by have := hm.len; have := hm.hi; have := hm.hj; omega) (by have := hm.len; have := hm.hi; have := hm.hj; omega) (fun A113 c113 hA113 => ?_))
      refine l_q (by decide) (p_assign rfl).q ?_
      refine l_nil ?_
      refine c_seq ?_
      refine c_reg ?_
      refine l_q (by decide) (p_move rfl).q ?_
      refine l_q (by decide) (p_assign rfl).q ?_
      refine l_nil ?_
      refine c_ret ?_
      refine c_ret1 rfl rfl (fun w hs => ?_)
      rw [hm.end1 (by omega) (by omega)]
      have g := hs.give (e := 30) (size := 3) (f := edF) (es := acc ++ [e]) (by repeat (first | exact List.Mem.head _ | apply List.Mem.tail)) (by decide) len_edF
      exact ⟨(_, _), rfl, g.1, g.2.1, hs.ext⟩
    · skip
      subst h109
      refine c_skip ?_
      refine c_seq ?_
      refine c_reg ?_
      refine l_q (by decide) (p_move rfl).q ?_
      refine l_q (by decide) (p_assign rfl).q ?_
      refine l_nil ?_
      refine c_ret ?_
      refine c_ret1 rfl rfl (fun w hs => ?_)
      rw [hm.end0 (by omega) (by omega)]
      have g := hs.give (e := 30) (size := 3) (f := edF) (es := acc) (by repeat (first | exact List.Mem.head _ | apply List.Mem.tail)) (by decide) len_edF
      exact ⟨(_, _), rfl, g.1, g.2.1, hs.ext⟩
end Go.Proofs.Ytnkmemoagimddaa
