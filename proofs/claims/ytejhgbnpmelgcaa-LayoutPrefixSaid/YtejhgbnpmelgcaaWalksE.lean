/- The walks of the off-side rule, fifth part; conditions: lengths. -/
import Derived.Test.YtejhgbnpmelgcaaWalksD
namespace Go.Proofs.Ytejhgbnpmelgcaa
open Go Go.Fx Go.Proofs

/-- the levels with the base level below them -/
def lb (lv : List Nat) : List Nat := (lv ++ [0]).reverse
theorem lb_len (lv : List Nat) : (lb lv).length = lv.length + 1 := by simp [lb]
theorem lb_top (lv : List Nat) : (lb lv)[lv.length]? = some (Lay.top lv) := by
  cases lv with
  | nil => rfl
  | cons x lv => simp [lb, Lay.top, List.getElem?_append]
theorem lb_second (lv : List Nat) (h : 0 < lv.length) : (lb lv)[lv.length - 1]? = some (Lay.top (lv.drop 1)) := by
  cases lv with
  | nil => simp at h
  | cons x lv =>
    have h1 := lb_top lv
    have h2 := lb_len lv
    simp only [List.length_cons, Nat.add_sub_cancel, List.drop_succ_cons, List.drop_zero]
    rw [show lb (x :: lv) = lb lv ++ [x] by simp [lb], List.getElem?_append_left (by omega)]
    exact h1
theorem lb_push (x : Nat) (lv : List Nat) : lb lv ++ [x] = lb (x :: lv) := by simp [lb]
theorem lb_cut (lv : List Nat) (q : Nat) (h : 0 < (lv.drop q).length) : (lb (lv.drop q)).take ((lb (lv.drop q)).length - 1) = lb (lv.drop (q + 1)) := by
  rw [lb_len, ← List.drop_drop]
  generalize lv.drop q = m at *
  cases m with
  | nil => simp at h
  | cons x m =>
    rw [show lb (x :: m) = lb m ++ [x] by simp [lb]]
    simp only [List.length_cons, Nat.add_sub_cancel, List.drop_succ_cons, List.drop_zero]
    rw [← lb_len m, List.take_left]
theorem boolp {p : Prop} [Decidable p] (h : p) : some (Value.bool true) = some (Value.bool (decide p)) := by rw [decide_eq_true h]
theorem booln {p : Prop} [Decidable p] (h : ¬ p) : some (Value.bool false) = some (Value.bool (decide p)) := by rw [decide_eq_false h]
theorem boold {p q : Prop} [Decidable p] [Decidable q] (h : p ↔ q) : some (Value.bool (decide p)) = some (Value.bool (decide q)) := by rw [decide_eq_decide.2 h]
theorem call_20 : Callable Try.prog 20 := ⟨_, Try.func20, by kernel_rfl, rfl⟩
theorem apply2_ok (A : Option Addr) (c : Nat) (l : List Lay.T) (s : List UInt8) (defs : Int) (hl : l.length ≤ 60) (hs : s.length ≤ 400) (hd1 : 0 ≤ defs) (hd2 : defs ≤ 1000) (hat : ∀ t, t ∈ l → 0 ≤ t.at_ ∧ t.at_ ≤ s.length) (w : World) (hq : Sl 4 tokF A l w) :
    Calls Try.prog 14 #[.slice A l.length c, str s, .int .i64 defs] w (Ret fun v w' => ∃ x : Option Addr × Nat, v = .slice x.1 (Lay.app l s defs).length x.2 ∧ Sl 4 tokF x.1 (Lay.app l s defs) w' ∧ Dep w.heap.size w'.heap.size (Sl 4 tokF x.1 (Lay.app l s defs)) ∧ Ext [] w w') := by
  refine calls_fx (l := [.slice A l.length c, str s, .int .i64 defs]) Try.func14 rfl Try.ntmps14 (Nat.le_of_ble_eq_true rfl) ((St.start w).old hq (dep_sl (by decide) hq)) ?_
  refine c_seq ?_
  refine c_reg ?_
  refine l_q (by decide) (p_assign rfl).q ?_
  refine l_nil ?_
  refine c_seq ?_
  refine c_reg ?_
  refine l_q (by decide) (p_assign rfl).q ?_
  refine l_nil ?_
  refine c_seq ?_
  refine c_reg ?_
  refine l_buildSlice (by decide) Try.underlying35 inf_3 (by decide) (by decide) rfl rfl rfl rfl (fun b14 => ?_)
  refine l_rowc (size := 1) natF [0] rfl rfl (by decide) ?_
  refine l_q (by decide) (p_assign rfl).q ?_
  refine l_nil ?_
  refine c_seq ?_
  refine c_seq ?_
  refine c_reg ?_
  refine l_q (by decide) (p_assign (v := .int .i64 ((0 : Nat) : Int)) rfl).q ?_
  refine l_nil ?_
  refine c_block ?_
  refine c_sl0 33 4 tokF ?_
  refine c_loop (S := Nat × Option Addr × Nat × Option Addr × Nat) (fun zs => zs.1 ≤ l.length) (fun zs => l.length - zs.1) (fun zs => [(0, .slice A l.length c), (1, str s), (2, .int .i64 defs), (7, .slice zs.2.1 ((Lay.run s defs (l.take zs.1)).out).length zs.2.2.1), (8, .slice zs.2.2.2.1 (lb (Lay.run s defs (l.take zs.1)).lv).length zs.2.2.2.2), (9, .int .i64 (zs.1 : Int))]) (fun zs => [iSl 33 4 tokF zs.2.1 zs.2.2.1 ((Lay.run s defs (l.take zs.1)).out), iSl 3 1 natF zs.2.2.2.1 zs.2.2.2.2 (lb ((Lay.run s defs (l.take zs.1)).lv))]) (fun zs => [Sl 4 tokF A l]) (0, none, 0, some ⟨b14, 0, none⟩, 1) ?_ ?_ ?_ ?_ ?_
  · show (0) ≤ l.length
    exact Nat.zero_le _
  · exact ⟨rfl, rfl, rfl, rfl, rfl, rfl, trivial⟩
  · exact .refl _
  · simp
  rintro ⟨i, A2, c2, B2, d2⟩ hinv
  have hinv : i ≤ l.length := hinv
  have hi := hinv
  show Cont _ _ _ _ [(0, .slice A l.length c), (1, str s), (2, .int .i64 defs), (7, .slice A2 ((Lay.run s defs (l.take i)).out).length c2), (8, .slice B2 (lb (Lay.run s defs (l.take i)).lv).length d2), (9, .int .i64 (i : Int))] ([iSl 33 4 tokF A2 c2 ((Lay.run s defs (l.take i)).out), iSl 3 1 natF B2 d2 (lb ((Lay.run s defs (l.take i)).lv))]) [Sl 4 tokF A l]
  refine c_seq ?_
  refine c_seq ?_
  refine c_reg ?_
  refine l_q (by decide) (p_move rfl).q ?_
  refine l_q (by decide) (p_move rfl).q ?_
  refine l_q (by decide) (p_len_sl Try.underlying22 rfl).q ?_
  first | refine l_q (by decide) (p_lss rfl rfl rfl rfl).q ?_ | refine l_q (by decide) (p_lssi rfl rfl).q ?_
  refine l_nil ?_
  first | refine c_dec rfl (fun h18 => ?_) (fun h18 => ?_) | refine c_cond rfl (fun h18 => ?_) (fun h18 => ?_)
  · skip
    obtain ⟨u, hu⟩ := at_some (l := l) (n := i) (by omega)
    have hua := hat u (List.mem_of_getElem? hu)
    obtain ⟨n, hn⟩ := Int.eq_ofNat_of_zero_le hua.1
    have hn2 : u.at_.toNat = n := by omega
    have hst := Lay.start_le s n
    have hrt := Lay.run_take s defs l i u hu
    have hrn := Lay.run_none s defs l i (by omega)
    have hrl := Lay.run_take_len s defs l i
    have hlb := lb_len (Lay.run s defs (l.take i)).lv
    refine c_skip ?_
    refine c_seq ?_
    refine c_block ?_
    refine c_seq ?_
    refine c_reg ?_
    refine l_q (by decide) (p_move rfl).q ?_
    refine l_q (by decide) (p_move rfl).q ?_
    first | refine l_q (by decide) (r_index Try.underlying22 inf_33 rfl rfl rfl (by first | exact .fact (by repeat (first | exact List.Mem.head _ | apply List.Mem.tail)) | exact .own (by repeat (first | exact List.Mem.head _ | apply List.Mem.tail)) (by decide) (fun _ => rfl)) rfl (by omega)).q ?_ | refine l_q (by decide) (r_index Try.underlying22 inf_33 rfl rfl rfl (by first | exact .fact (by repeat (first | exact List.Mem.head _ | apply List.Mem.tail)) | exact .own (by repeat (first | exact List.Mem.head _ | apply List.Mem.tail)) (by decide) (fun _ => rfl)) rfl (by decide)).q ?_ | refine l_q (by decide) (p_indexo Try.underlying22 inf_33 rfl rfl rfl (by omega)).q ?_
    first | refine l_q (by decide) (p_faddr (i := 1) 1 Try.underlying33 rfl inf_3 (by decide) rfl rfl).q ?_ | refine l_q (by decide) (p_faddro (i := 1) 1 Try.underlying33 rfl inf_3 (by decide) rfl rfl).q ?_
    first | refine l_q (by decide) (((r_loado Try.underlying3 rfl rfl (by repeat (first | exact List.Mem.head _ | apply List.Mem.tail)) (by rfl))).to (u := .int .i64 (n : Int)) (by rw [hn])).q ?_ | refine l_q (by decide) (((r_load1 Try.underlying3 rfl rfl (by first | exact .fact (by repeat (first | exact List.Mem.head _ | apply List.Mem.tail)) | exact .own (by repeat (first | exact List.Mem.head _ | apply List.Mem.tail)) (by decide) (fun _ => rfl)) (by first | assumption | rfl) (by rfl))).to (u := .int .i64 (n : Int)) (by rw [hn])).q ?_ | refine l_q (by decide) (((r_loadf Try.underlying3 rfl rfl (by first | exact .fact (by repeat (first | exact List.Mem.head _ | apply List.Mem.tail)) | exact .own (by repeat (first | exact List.Mem.head _ | apply List.Mem.tail)) (by decide) (fun _ => rfl)) (by assumption) (by rfl))).to (u := .int .i64 (n : Int)) (by rw [hn])).q ?_
    refine l_q (by decide) (p_assign rfl).q ?_
    refine l_nil ?_
    refine c_seq ?_
    refine c_reg ?_
    refine l_q (by decide) (p_move rfl).q ?_
    refine l_q (by decide) (p_move rfl).q ?_
    refine l_q (by decide) (q_call call_20 rfl (fun w hs => start_ok s n (by omega) (by omega) w)) ?_
    refine l_q (by decide) (p_assign rfl).q ?_
    refine l_nil ?_
    refine c_seq ?_
    refine c_seq ?_
    refine c_meetn (S := Unit) (fun zs => True) (fun zs => [(0, .slice A l.length c), (1, str s), (2, .int .i64 defs), (7, .slice A2 ((Lay.run s defs (l.take i)).out).length c2), (8, .slice B2 (lb (Lay.run s defs (l.take i)).lv).length d2), (9, .int .i64 (i : Int)), (10, .int .i64 (n : Int)), (11, .int .i64 (Lay.start s n : Int)), (42, .bool (decide (¬ (Lay.run s defs (l.take i)).last = some (Lay.start s n))))]) (fun zs => [iSl 33 4 tokF A2 c2 ((Lay.run s defs (l.take i)).out), iSl 3 1 natF B2 d2 (lb ((Lay.run s defs (l.take i)).lv))]) (fun zs => [Sl 4 tokF A l]) ?_ ?_
    · skip
      refine c_reg ?_
      refine l_q (by decide) (p_move rfl).q ?_
      first | refine l_q (by decide) (p_eql (j := 0) rfl rfl rfl rfl).q ?_ | refine l_q (by decide) (p_eqli rfl rfl).q ?_
      refine l_q (by decide) (p_move rfl).q ?_
      first | refine l_splitd (t := 31) rfl (fun h31 => ?_) (fun h31 => ?_) | refine l_splitb (t := 31) rfl (fun h31 => ?_) (fun h31 => ?_)
      · skip
        refine l_off (j := 2) rfl rfl (by first | (simp; done) | (simp [undef]; done)) (by decide) ?_
        refine l_off (j := 2) rfl rfl (by first | (simp; done) | (simp [undef]; done)) (by decide) ?_
        refine l_off (j := 2) rfl rfl (by first | (simp; done) | (simp [undef]; done)) (by decide) ?_
        refine l_off (j := 2) rfl rfl (by first | (simp; done) | (simp [undef]; done)) (by decide) ?_
        refine l_off (j := 2) rfl rfl (by first | (simp; done) | (simp [undef]; done)) (by decide) ?_
        refine l_off (j := 2) rfl rfl (by first | (simp; done) | (simp [undef]; done)) (by decide) ?_
        refine l_off (j := 2) rfl rfl (by first | (simp; done) | (simp [undef]; done)) (by decide) ?_
        refine l_off (j := 2) rfl rfl (by first | (simp; done) | (simp [undef]; done)) (by decide) ?_
        refine l_off (j := 2) rfl rfl (by first | (simp; done) | (simp [undef]; done)) (by decide) ?_
        refine l_off (j := 2) rfl rfl (by first | (simp; done) | (simp [undef]; done)) (by decide) ?_
        refine l_q (by decide) (p_pick rfl rfl).q ?_
        refine l_nil ?_
        refine c_join (()) ?inv ?sub ?perm ?facts
        case sub => exact ⟨rfl, rfl, rfl, rfl, rfl, rfl, rfl, rfl, (boolp (by rw [show i = 0 by omega]; simp [Lay.run])), trivial⟩
        case perm =>
          exact .refl _
        case facts => exact fun _ h => h
        case inv =>
          trivial
      · skip
        obtain ⟨i0, hi0⟩ : ∃ i0, i = i0 + 1 := ⟨i - 1, by omega⟩
        obtain ⟨u0, hu0⟩ := at_some (l := l) (n := i - 1) (by omega)
        have hua0 := hat u0 (List.mem_of_getElem? hu0)
        obtain ⟨n0, hn0⟩ := Int.eq_ofNat_of_zero_le hua0.1
        have hprev : (Lay.run s defs (l.take i)).last = some (Lay.start s n0) := by
          have := Lay.run_prev s defs l (i - 1) u0 hu0
          rw [show i - 1 + 1 = i by omega, show u0.at_.toNat = n0 by omega] at this; exact this
        refine l_g (j := 2) rfl rfl (by decide) (p_move rfl).q ?_
        refine l_g (j := 2) rfl rfl (by decide) (p_move rfl).q ?_
        refine l_g (j := 2) rfl rfl (by decide) (p_move rfl).q ?_
        first | refine l_g (j := 2) rfl rfl (by decide) (p_sub (j := 1) rfl rfl rfl rfl (by omega) (by show _ ≤ (9223372036854775807 : Nat); omega)).q ?_ | refine l_g (j := 2) rfl rfl (by decide) (p_subi rfl rfl (by show (-9223372036854775808 : Int) ≤ _; omega) (by show _ ≤ ((9223372036854775807 : Nat) : Int); omega)).q ?_
        first | refine l_g (j := 2) rfl rfl (by decide) (r_index Try.underlying22 inf_33 rfl rfl rfl (by first | exact .fact (by repeat (first | exact List.Mem.head _ | apply List.Mem.tail)) | exact .own (by repeat (first | exact List.Mem.head _ | apply List.Mem.tail)) (by decide) (fun _ => rfl)) rfl (by omega)).q ?_ | refine l_g (j := 2) rfl rfl (by decide) (r_index Try.underlying22 inf_33 rfl rfl rfl (by first | exact .fact (by repeat (first | exact List.Mem.head _ | apply List.Mem.tail)) | exact .own (by repeat (first | exact List.Mem.head _ | apply List.Mem.tail)) (by decide) (fun _ => rfl)) rfl (by decide)).q ?_ | refine l_g (j := 2) rfl rfl (by decide) (p_indexo Try.underlying22 inf_33 rfl rfl rfl (by omega)).q ?_
        first | refine l_g (j := 2) rfl rfl (by decide) (p_faddr (i := 1) 1 Try.underlying33 rfl inf_3 (by decide) rfl rfl).q ?_ | refine l_g (j := 2) rfl rfl (by decide) (p_faddro (i := 1) 1 Try.underlying33 rfl inf_3 (by decide) rfl rfl).q ?_
        first | refine l_g (j := 2) rfl rfl (by decide) (((r_loado Try.underlying3 rfl rfl (by repeat (first | exact List.Mem.head _ | apply List.Mem.tail)) (by rfl))).to (u := .int .i64 (n0 : Int)) (by rw [hn0])).q ?_ | refine l_g (j := 2) rfl rfl (by decide) (((r_load1 Try.underlying3 rfl rfl (by first | exact .fact (by repeat (first | exact List.Mem.head _ | apply List.Mem.tail)) | exact .own (by repeat (first | exact List.Mem.head _ | apply List.Mem.tail)) (by decide) (fun _ => rfl)) (by first | assumption | rfl) (by rfl))).to (u := .int .i64 (n0 : Int)) (by rw [hn0])).q ?_ | refine l_g (j := 2) rfl rfl (by decide) (((r_loadf Try.underlying3 rfl rfl (by first | exact .fact (by repeat (first | exact List.Mem.head _ | apply List.Mem.tail)) | exact .own (by repeat (first | exact List.Mem.head _ | apply List.Mem.tail)) (by decide) (fun _ => rfl)) (by assumption) (by rfl))).to (u := .int .i64 (n0 : Int)) (by rw [hn0])).q ?_
        refine l_g (j := 2) rfl rfl (by decide) (q_call call_20 rfl (fun w hs => start_ok s n0 (by omega) (by omega) w)) ?_
        refine l_g (j := 2) rfl rfl (by decide) (p_move rfl).q ?_
        first | refine l_g (j := 2) rfl rfl (by decide) (p_neq rfl rfl rfl rfl).q ?_ | refine l_g (j := 2) rfl rfl (by decide) (p_neqi rfl rfl).q ?_
        refine l_q (by decide) (p_pick rfl rfl).q ?_
        refine l_nil ?_
        refine c_join (()) ?inv ?sub ?perm ?facts
        case sub => exact ⟨rfl, rfl, rfl, rfl, rfl, rfl, rfl, rfl, (boold (by rw [hprev, Option.some.injEq])), trivial⟩
        case perm =>
          exact .refl _
        case facts => exact fun _ h => h
        case inv =>
          trivial
    rintro uu hmeet
    show Cont _ _ _ _ [(0, .slice A l.length c), (1, str s), (2, .int .i64 defs), (7, .slice A2 ((Lay.run s defs (l.take i)).out).length c2), (8, .slice B2 (lb (Lay.run s defs (l.take i)).lv).length d2), (9, .int .i64 (i : Int)), (10, .int .i64 (n : Int)), (11, .int .i64 (Lay.start s n : Int)), (42, .bool (decide (¬ (Lay.run s defs (l.take i)).last = some (Lay.start s n))))] ([iSl 33 4 tokF A2 c2 ((Lay.run s defs (l.take i)).out), iSl 3 1 natF B2 d2 (lb ((Lay.run s defs (l.take i)).lv))]) [Sl 4 tokF A l]
    refine c_meetn (S := List Lay.T × List Nat × Option Addr × Nat × Option Addr × Nat) (fun zs => Lay.run s defs (l.take (i + 1)) = ⟨zs.1 ++ [u], zs.2.1, some (Lay.start s n)⟩) (fun zs => [(0, .slice A l.length c), (1, str s), (2, .int .i64 defs), (7, .slice zs.2.2.1 (zs.1).length zs.2.2.2.1), (8, .slice zs.2.2.2.2.1 (lb zs.2.1).length zs.2.2.2.2.2), (9, .int .i64 (i : Int))]) (fun zs => [iSl 33 4 tokF zs.2.2.1 zs.2.2.2.1 (zs.1), iSl 3 1 natF zs.2.2.2.2.1 zs.2.2.2.2.2 (lb (zs.2.1))]) (fun zs => [Sl 4 tokF A l]) ?_ ?_
    · skip
      first | refine c_dec rfl (fun h42 => ?_) (fun h42 => ?_) | refine c_cond rfl (fun h42 => ?_) (fun h42 => ?_)
      · skip
        have hlt : (lb (Lay.run s defs (l.take i)).lv)[(lb (Lay.run s defs (l.take i)).lv).length - 1]? = some (Lay.top (Lay.run s defs (l.take i)).lv) := by rw [hlb]; exact lb_top _
        refine c_seq ?_
        refine c_reg ?_
        refine l_q (by decide) (p_move rfl).q ?_
        refine l_q (by decide) (p_move rfl).q ?_
        first | refine l_q (by decide) (p_sub rfl rfl rfl rfl (by omega) (by show _ ≤ (9223372036854775807 : Nat); omega)).q ?_ | refine l_q (by decide) (p_subi rfl rfl (by show (-9223372036854775808 : Int) ≤ _; omega) (by show _ ≤ ((9223372036854775807 : Nat) : Int); omega)).q ?_
        refine l_q (by decide) (p_assign rfl).q ?_
        refine l_nil ?_
        refine c_seq ?_
        refine c_reg ?_
        refine l_q (by decide) (p_move rfl).q ?_
        refine l_q (by decide) (p_move rfl).q ?_
        refine l_q (by decide) (p_move rfl).q ?_
        refine l_q (by decide) (p_len_sl Try.underlying35 rfl).q ?_
        first | refine l_q (by decide) (p_sub (j := 1) rfl rfl rfl rfl (by omega) (by show _ ≤ (9223372036854775807 : Nat); omega)).q ?_ | refine l_q (by decide) (p_subi rfl rfl (by show (-9223372036854775808 : Int) ≤ _; omega) (by show _ ≤ ((9223372036854775807 : Nat) : Int); omega)).q ?_
        first | refine l_q (by decide) (r_index Try.underlying35 inf_3 rfl rfl rfl (by first | exact .fact (by repeat (first | exact List.Mem.head _ | apply List.Mem.tail)) | exact .own (by repeat (first | exact List.Mem.head _ | apply List.Mem.tail)) (by decide) (fun _ => rfl)) rfl (by omega)).q ?_ | refine l_q (by decide) (r_index Try.underlying35 inf_3 rfl rfl rfl (by first | exact .fact (by repeat (first | exact List.Mem.head _ | apply List.Mem.tail)) | exact .own (by repeat (first | exact List.Mem.head _ | apply List.Mem.tail)) (by decide) (fun _ => rfl)) rfl (by decide)).q ?_ | refine l_q (by decide) (p_indexo Try.underlying35 inf_3 rfl rfl rfl (by omega)).q ?_
        first | refine l_q (by decide) (r_loado Try.underlying3 rfl rfl (by repeat (first | exact List.Mem.head _ | apply List.Mem.tail)) (by rfl)).q ?_ | refine l_q (by decide) (r_load1 Try.underlying3 rfl rfl (by first | exact .fact (by repeat (first | exact List.Mem.head _ | apply List.Mem.tail)) | exact .own (by repeat (first | exact List.Mem.head _ | apply List.Mem.tail)) (by decide) (fun _ => rfl)) (by first | assumption | rfl) (by rfl)).q ?_ | refine l_q (by decide) (r_loadf Try.underlying3 rfl rfl (by first | exact .fact (by repeat (first | exact List.Mem.head _ | apply List.Mem.tail)) | exact .own (by repeat (first | exact List.Mem.head _ | apply List.Mem.tail)) (by decide) (fun _ => rfl)) (by assumption) (by rfl)).q ?_
        first | refine l_q (by decide) (p_gtr rfl rfl rfl rfl).q ?_ | refine l_q (by decide) (p_gtri rfl rfl).q ?_
        refine l_nil ?_
        first | refine c_dec rfl (fun h53 => ?_) (fun h53 => ?_) | refine c_cond rfl (fun h53 => ?_) (fun h53 => ?_)
        · skip
          refine c_seq ?_
          refine c_reg ?_
          refine l_q (by decide) (p_move rfl).q ?_
          refine l_q (by decide) (p_move rfl).q ?_
          refine l_buildSlice (by decide) Try.underlying35 inf_3 (by decide) (by decide) rfl rfl rfl rfl (fun b56 => ?_)
          first | (refine l_append1 ((n - Lay.start s n)) (by decide) Try.underlying35 inf_3 rfl (by decide) rfl rfl rfl rfl rfl rfl (by rw [lb_len]; omega) (by rw [lb_len]; omega) (fun A57 c57 hA57 => ?_)) | (refine l_perm (.cons _ (front1 _ _ _)) ?_; refine l_append1 ((n - Lay.start s n)) (by decide) Try.underlying35 inf_3 rfl (by decide) rfl rfl rfl rfl rfl rfl (by rw [lb_len]; omega) (by rw [lb_len]; omega) (fun A57 c57 hA57 => ?_)) | (refine l_perm (.cons _ (front2 _ _ _ _)) ?_; refine l_append1 ((n - Lay.start s n)) (by decide) Try.underlying35 inf_3 rfl (by decide) rfl rfl rfl rfl rfl rfl (by rw [lb_len]; omega) (by rw [lb_len]; omega) (fun A57 c57 hA57 => ?_))
          refine l_q (by decide) (p_assign rfl).q ?_
          refine l_nil ?_
          refine c_reg ?_
          refine l_q (by decide) (p_move rfl).q ?_
          refine l_q (by decide) (p_move rfl).q ?_
          first | refine l_q (by decide) (p_add (j := 1) rfl rfl rfl rfl (by show _ ≤ (9223372036854775807 : Nat); omega)).q ?_ | refine l_q (by decide) (p_addi rfl rfl (by show (-9223372036854775808 : Int) ≤ _; omega) (by show _ ≤ ((9223372036854775807 : Nat) : Int); omega)).q ?_
          refine l_q (by decide) (p_move rfl).q ?_
          refine l_q (by decide) (p_build (cells := #[_, _, _, _]) inf_33 pl_33 rfl rfl).q ?_
          refine l_buildSlice (by decide) Try.underlying22 inf_33 (by decide) (by decide) rfl rfl rfl rfl (fun b63 => ?_)
          first | (refine l_append1 (Lay.tok (defs + 1) n) (by decide) Try.underlying22 inf_33 rfl (by decide) rfl rfl rfl rfl rfl rfl (by (try simp only [List.length_append, List.length_replicate, List.length_cons, List.length_nil]); omega) (by (try simp only [List.length_append, List.length_replicate, List.length_cons, List.length_nil]); omega) (fun A64 c64 hA64 => ?_)) | (refine l_perm (.cons _ (front1 _ _ _)) ?_; refine l_append1 (Lay.tok (defs + 1) n) (by decide) Try.underlying22 inf_33 rfl (by decide) rfl rfl rfl rfl rfl rfl (by (try simp only [List.length_append, List.length_replicate, List.length_cons, List.length_nil]); omega) (by (try simp only [List.length_append, List.length_replicate, List.length_cons, List.length_nil]); omega) (fun A64 c64 hA64 => ?_)) | (refine l_perm (.cons _ (front2 _ _ _ _)) ?_; refine l_append1 (Lay.tok (defs + 1) n) (by decide) Try.underlying22 inf_33 rfl (by decide) rfl rfl rfl rfl rfl rfl (by (try simp only [List.length_append, List.length_replicate, List.length_cons, List.length_nil]); omega) (by (try simp only [List.length_append, List.length_replicate, List.length_cons, List.length_nil]); omega) (fun A64 c64 hA64 => ?_))
          refine l_q (by decide) (p_assign rfl).q ?_
          refine l_nil ?_
          rw [lb_push]
          refine c_join ((Lay.run s defs (l.take i)).out ++ [Lay.tok (defs + 1) n], (n - Lay.start s n) :: (Lay.run s defs (l.take i)).lv, A64, c64, A57, c57) ?inv ?sub ?perm ?facts
          case sub => exact ⟨rfl, rfl, rfl, rfl, rfl, rfl, trivial⟩
          case perm =>
            repeat (first | exact List.Perm.refl _ | refine List.Perm.cons _ ?_ | refine (front1 _ _ _).trans (List.Perm.cons _ ?_) | refine (front2 _ _ _ _).trans (List.Perm.cons _ ?_) | refine (front3 _ _ _ _ _).trans (List.Perm.cons _ ?_) | refine (front4 _ _ _ _ _ _).trans (List.Perm.cons _ ?_))
          case facts => exact fun _ h => h
          case inv =>
            rw [hrt, Lay.step_other (by rw [hn2]; exact h42), hn2, (line_in (defs := defs) (p := n) (f := (Lay.run s defs (l.take i)).last.isNone) h53).1, (line_in (defs := defs) (p := n) (f := true) h53).2]
        · skip
          refine c_seq ?_
          refine c_seq ?_
          refine c_reg ?_
          refine l_q (by decide) (p_move rfl).q ?_
          first | refine l_q (by decide) (p_gtr (j := 0) rfl rfl rfl rfl).q ?_ | refine l_q (by decide) (p_gtri rfl rfl).q ?_
          refine l_nil ?_
          refine c_meetn (S := Option Addr × Nat × List Lay.T) (fun zs => zs.2.2 = (Lay.run s defs (l.take i)).out ++ (if decide (i = 0) then [] else [Lay.tok defs n])) (fun zs => [(0, .slice A l.length c), (1, str s), (2, .int .i64 defs), (7, .slice zs.1 (zs.2.2).length zs.2.1), (8, .slice B2 (lb (Lay.run s defs (l.take i)).lv).length d2), (9, .int .i64 (i : Int)), (10, .int .i64 (n : Int)), (12, .int .i64 ((n - Lay.start s n : Nat) : Int))]) (fun zs => [iSl 33 4 tokF zs.1 zs.2.1 (zs.2.2), iSl 3 1 natF B2 d2 (lb ((Lay.run s defs (l.take i)).lv))]) (fun zs => [Sl 4 tokF A l]) ?_ ?_
          · skip
            first | refine c_dec rfl (fun h66 => ?_) (fun h66 => ?_) | refine c_cond rfl (fun h66 => ?_) (fun h66 => ?_)
            · skip
              refine c_reg ?_
              refine l_q (by decide) (p_move rfl).q ?_
              refine l_q (by decide) (p_move rfl).q ?_
              refine l_q (by decide) (p_move rfl).q ?_
              refine l_q (by decide) (p_build (cells := #[_, _, _, _]) inf_33 pl_33 rfl rfl).q ?_
              refine l_buildSlice (by decide) Try.underlying22 inf_33 (by decide) (by decide) rfl rfl rfl rfl (fun b71 => ?_)
              first | (refine l_append1 (Lay.tok defs n) (by decide) Try.underlying22 inf_33 rfl (by decide) rfl rfl rfl rfl rfl rfl (by (try simp only [List.length_append, List.length_replicate, List.length_cons, List.length_nil]); omega) (by (try simp only [List.length_append, List.length_replicate, List.length_cons, List.length_nil]); omega) (fun A72 c72 hA72 => ?_)) | (refine l_perm (.cons _ (front1 _ _ _)) ?_; refine l_append1 (Lay.tok defs n) (by decide) Try.underlying22 inf_33 rfl (by decide) rfl rfl rfl rfl rfl rfl (by (try simp only [List.length_append, List.length_replicate, List.length_cons, List.length_nil]); omega) (by (try simp only [List.length_append, List.length_replicate, List.length_cons, List.length_nil]); omega) (fun A72 c72 hA72 => ?_)) | (refine l_perm (.cons _ (front2 _ _ _ _)) ?_; refine l_append1 (Lay.tok defs n) (by decide) Try.underlying22 inf_33 rfl (by decide) rfl rfl rfl rfl rfl rfl (by (try simp only [List.length_append, List.length_replicate, List.length_cons, List.length_nil]); omega) (by (try simp only [List.length_append, List.length_replicate, List.length_cons, List.length_nil]); omega) (fun A72 c72 hA72 => ?_))
              refine l_q (by decide) (p_assign rfl).q ?_
              refine l_nil ?_
              refine c_join (A72, c72, (Lay.run s defs (l.take i)).out ++ [Lay.tok defs n]) ?inv ?sub ?perm ?facts
              case sub => exact ⟨rfl, rfl, rfl, rfl, rfl, rfl, rfl, rfl, trivial⟩
              case perm =>
                repeat (first | exact List.Perm.refl _ | refine List.Perm.cons _ ?_ | refine (front1 _ _ _).trans (List.Perm.cons _ ?_) | refine (front2 _ _ _ _).trans (List.Perm.cons _ ?_) | refine (front3 _ _ _ _ _).trans (List.Perm.cons _ ?_) | refine (front4 _ _ _ _ _ _).trans (List.Perm.cons _ ?_))
              case facts => exact fun _ h => h
              case inv =>
                rw [decide_eq_false (by omega)]; rfl
            · skip
              refine c_skip ?_
              refine c_join (A2, c2, (Lay.run s defs (l.take i)).out) ?inv ?sub ?perm ?facts
              case sub => exact ⟨rfl, rfl, rfl, rfl, rfl, rfl, rfl, rfl, trivial⟩
              case perm =>
                repeat (first | exact List.Perm.refl _ | refine List.Perm.cons _ ?_ | refine (front1 _ _ _).trans (List.Perm.cons _ ?_) | refine (front2 _ _ _ _).trans (List.Perm.cons _ ?_) | refine (front3 _ _ _ _ _).trans (List.Perm.cons _ ?_) | refine (front4 _ _ _ _ _ _).trans (List.Perm.cons _ ?_))
              case facts => exact fun _ h => h
              case inv =>
                rw [decide_eq_true (by omega)]; simp
          rintro ⟨A3, c3, o2⟩ hmeet
          have hmeet : o2 = (Lay.run s defs (l.take i)).out ++ (if decide (i = 0) then [] else [Lay.tok defs n]) := hmeet
          have ho2 := hmeet
          show Cont _ _ _ _ [(0, .slice A l.length c), (1, str s), (2, .int .i64 defs), (7, .slice A3 (o2).length c3), (8, .slice B2 (lb (Lay.run s defs (l.take i)).lv).length d2), (9, .int .i64 (i : Int)), (10, .int .i64 (n : Int)), (12, .int .i64 ((n - Lay.start s n : Nat) : Int))] ([iSl 33 4 tokF A3 c3 (o2), iSl 3 1 natF B2 d2 (lb ((Lay.run s defs (l.take i)).lv))]) [Sl 4 tokF A l]
          have ho2l : o2.length ≤ ((Lay.run s defs (l.take i)).out).length + 1 := by rw [ho2, List.length_append]; split <;> simp
          refine c_block ?_
          refine c_loop (S := Nat × Option Addr × Nat × Option Addr × Nat) (fun zs => zs.1 ≤ Lay.pops (n - Lay.start s n) (Lay.run s defs (l.take i)).lv) (fun zs => Lay.pops (n - Lay.start s n) (Lay.run s defs (l.take i)).lv - zs.1) (fun zs => [(0, .slice A l.length c), (1, str s), (2, .int .i64 defs), (7, .slice zs.2.1 (o2 ++ List.replicate zs.1 (Lay.tok (defs + 2) n)).length zs.2.2.1), (8, .slice zs.2.2.2.1 (lb (((Lay.run s defs (l.take i)).lv).drop zs.1)).length zs.2.2.2.2), (9, .int .i64 (i : Int)), (10, .int .i64 (n : Int)), (12, .int .i64 ((n - Lay.start s n : Nat) : Int))]) (fun zs => [iSl 33 4 tokF zs.2.1 zs.2.2.1 (o2 ++ List.replicate zs.1 (Lay.tok (defs + 2) n)), iSl 3 1 natF zs.2.2.2.1 zs.2.2.2.2 (lb (((Lay.run s defs (l.take i)).lv).drop zs.1))]) (fun zs => [Sl 4 tokF A l]) (0, A3, c3, B2, d2) ?_ ?_ ?_ ?_ ?_
          · show (0) ≤ Lay.pops (n - Lay.start s n) (Lay.run s defs (l.take i)).lv
            exact Nat.zero_le _
          · exact ⟨rfl, rfl, rfl, (by rw [List.replicate_zero, List.append_nil]; rfl), rfl, rfl, rfl, rfl, trivial⟩
          · exact by rw [List.replicate_zero, List.append_nil]; exact .refl _
          · simp
          rintro ⟨q, A4, c4, B4, d4⟩ hinv
          have hinv : q ≤ Lay.pops (n - Lay.start s n) (Lay.run s defs (l.take i)).lv := hinv
          have hq4 := hinv
          have hpm := Lay.pops_more (n - Lay.start s n) (Lay.run s defs (l.take i)).lv q hq4
          have hpl := Lay.pops_le (n - Lay.start s n) (Lay.run s defs (l.take i)).lv
          have hlbq := lb_len (((Lay.run s defs (l.take i)).lv).drop q)
          have hdq : (((Lay.run s defs (l.take i)).lv).drop q).length = ((Lay.run s defs (l.take i)).lv).length - q := List.length_drop
          show Cont _ _ _ _ [(0, .slice A l.length c), (1, str s), (2, .int .i64 defs), (7, .slice A4 (o2 ++ List.replicate q (Lay.tok (defs + 2) n)).length c4), (8, .slice B4 (lb (((Lay.run s defs (l.take i)).lv).drop q)).length d4), (9, .int .i64 (i : Int)), (10, .int .i64 (n : Int)), (12, .int .i64 ((n - Lay.start s n : Nat) : Int))] ([iSl 33 4 tokF A4 c4 (o2 ++ List.replicate q (Lay.tok (defs + 2) n)), iSl 3 1 natF B4 d4 (lb (((Lay.run s defs (l.take i)).lv).drop q))]) [Sl 4 tokF A l]
          refine c_seq ?_
          refine c_seq ?_
          refine c_meetn (S := Unit) (fun zs => True) (fun zs => [(0, .slice A l.length c), (1, str s), (2, .int .i64 defs), (7, .slice A4 (o2 ++ List.replicate q (Lay.tok (defs + 2) n)).length c4), (8, .slice B4 (lb (((Lay.run s defs (l.take i)).lv).drop q)).length d4), (9, .int .i64 (i : Int)), (10, .int .i64 (n : Int)), (12, .int .i64 ((n - Lay.start s n : Nat) : Int)), (85, .bool (decide (0 < (((Lay.run s defs (l.take i)).lv).drop q).length ∧ (n - Lay.start s n) ≤ Lay.top (((Lay.run s defs (l.take i)).lv).drop (q + 1)))))]) (fun zs => [iSl 33 4 tokF A4 c4 (o2 ++ List.replicate q (Lay.tok (defs + 2) n)), iSl 3 1 natF B4 d4 (lb (((Lay.run s defs (l.take i)).lv).drop q))]) (fun zs => [Sl 4 tokF A l]) ?_ ?_
          · skip
            refine c_reg ?_
            refine l_q (by decide) (p_move rfl).q ?_
            refine l_q (by decide) (p_len_sl Try.underlying35 rfl).q ?_
            first | refine l_q (by decide) (p_gtr (j := 1) rfl rfl rfl rfl).q ?_ | refine l_q (by decide) (p_gtri rfl rfl).q ?_
            refine l_q (by decide) (p_move rfl).q ?_
            first | refine l_splitd (t := 76) rfl (fun h76 => ?_) (fun h76 => ?_) | refine l_splitb (t := 76) rfl (fun h76 => ?_) (fun h76 => ?_)
            · skip
              have hls : (lb (((Lay.run s defs (l.take i)).lv).drop q))[(lb (((Lay.run s defs (l.take i)).lv).drop q)).length - 2]? = some (Lay.top (((Lay.run s defs (l.take i)).lv).drop (q + 1))) := by
                have h1 := lb_second (((Lay.run s defs (l.take i)).lv).drop q) (by omega)
                rw [List.drop_drop] at h1
                rw [hlbq, ← h1]; congr 1
              refine l_g (j := 3) rfl rfl (by decide) (p_move rfl).q ?_
              refine l_g (j := 3) rfl rfl (by decide) (p_move rfl).q ?_
              refine l_g (j := 3) rfl rfl (by decide) (p_len_sl Try.underlying35 rfl).q ?_
              first | refine l_g (j := 3) rfl rfl (by decide) (p_sub (j := 2) rfl rfl rfl rfl (by omega) (by show _ ≤ (9223372036854775807 : Nat); omega)).q ?_ | refine l_g (j := 3) rfl rfl (by decide) (p_subi rfl rfl (by show (-9223372036854775808 : Int) ≤ _; omega) (by show _ ≤ ((9223372036854775807 : Nat) : Int); omega)).q ?_
              first | refine l_g (j := 3) rfl rfl (by decide) (r_index Try.underlying35 inf_3 rfl rfl rfl (by first | exact .fact (by repeat (first | exact List.Mem.head _ | apply List.Mem.tail)) | exact .own (by repeat (first | exact List.Mem.head _ | apply List.Mem.tail)) (by decide) (fun _ => rfl)) rfl (by omega)).q ?_ | refine l_g (j := 3) rfl rfl (by decide) (r_index Try.underlying35 inf_3 rfl rfl rfl (by first | exact .fact (by repeat (first | exact List.Mem.head _ | apply List.Mem.tail)) | exact .own (by repeat (first | exact List.Mem.head _ | apply List.Mem.tail)) (by decide) (fun _ => rfl)) rfl (by decide)).q ?_ | refine l_g (j := 3) rfl rfl (by decide) (p_indexo Try.underlying35 inf_3 rfl rfl rfl (by omega)).q ?_
              first | refine l_g (j := 3) rfl rfl (by decide) (r_loado Try.underlying3 rfl rfl (by repeat (first | exact List.Mem.head _ | apply List.Mem.tail)) (by rfl)).q ?_ | refine l_g (j := 3) rfl rfl (by decide) (r_load1 Try.underlying3 rfl rfl (by first | exact .fact (by repeat (first | exact List.Mem.head _ | apply List.Mem.tail)) | exact .own (by repeat (first | exact List.Mem.head _ | apply List.Mem.tail)) (by decide) (fun _ => rfl)) (by first | assumption | rfl) (by rfl)).q ?_ | refine l_g (j := 3) rfl rfl (by decide) (r_loadf Try.underlying3 rfl rfl (by first | exact .fact (by repeat (first | exact List.Mem.head _ | apply List.Mem.tail)) | exact .own (by repeat (first | exact List.Mem.head _ | apply List.Mem.tail)) (by decide) (fun _ => rfl)) (by assumption) (by rfl)).q ?_
              refine l_g (j := 3) rfl rfl (by decide) (p_move rfl).q ?_
              first | refine l_g (j := 3) rfl rfl (by decide) (p_geq rfl rfl rfl rfl).q ?_ | refine l_g (j := 3) rfl rfl (by decide) (p_geqi rfl rfl).q ?_
              refine l_q (by decide) (p_pick rfl rfl).q ?_
              refine l_nil ?_
              refine c_join (()) ?inv ?sub ?perm ?facts
              case sub => exact ⟨rfl, rfl, rfl, rfl, rfl, rfl, rfl, rfl, (by first | rfl | exact congrArg (fun b => some (Value.bool b)) (decide_eq_true (by omega)).symm | exact congrArg (fun b => some (Value.bool b)) (decide_eq_false (by omega)).symm | exact congrArg (fun b => some (Value.bool b)) (decide_eq_decide.2 (by omega))), trivial⟩
              case perm =>
                exact .refl _
              case facts => exact fun _ h => h
              case inv =>
                trivial
            · skip
              refine l_off (j := 3) rfl rfl (by first | (simp; done) | (simp [undef]; done)) (by decide) ?_
              refine l_off (j := 3) rfl rfl (by first | (simp; done) | (simp [undef]; done)) (by decide) ?_
              refine l_off (j := 3) rfl rfl (by first | (simp; done) | (simp [undef]; done)) (by decide) ?_
              refine l_off (j := 3) rfl rfl (by first | (simp; done) | (simp [undef]; done)) (by decide) ?_
              refine l_off (j := 3) rfl rfl (by first | (simp; done) | (simp [undef]; done)) (by decide) ?_
              refine l_off (j := 3) rfl rfl (by first | (simp; done) | (simp [undef]; done)) (by decide) ?_
              refine l_off (j := 3) rfl rfl (by first | (simp; done) | (simp [undef]; done)) (by decide) ?_
              refine l_off (j := 3) rfl rfl (by first | (simp; done) | (simp [undef]; done)) (by decide) ?_
              refine l_q (by decide) (p_pick rfl rfl).q ?_
              refine l_nil ?_
              refine c_join (()) ?inv ?sub ?perm ?facts
              case sub => exact ⟨rfl, rfl, rfl, rfl, rfl, rfl, rfl, rfl, (by first | rfl | exact congrArg (fun b => some (Value.bool b)) (decide_eq_true (by omega)).symm | exact congrArg (fun b => some (Value.bool b)) (decide_eq_false (by omega)).symm | exact congrArg (fun b => some (Value.bool b)) (decide_eq_decide.2 (by omega))), trivial⟩
              case perm =>
                exact .refl _
              case facts => exact fun _ h => h
              case inv =>
                trivial
          rintro uu hmeet
          show Cont _ _ _ _ [(0, .slice A l.length c), (1, str s), (2, .int .i64 defs), (7, .slice A4 (o2 ++ List.replicate q (Lay.tok (defs + 2) n)).length c4), (8, .slice B4 (lb (((Lay.run s defs (l.take i)).lv).drop q)).length d4), (9, .int .i64 (i : Int)), (10, .int .i64 (n : Int)), (12, .int .i64 ((n - Lay.start s n : Nat) : Int)), (85, .bool (decide (0 < (((Lay.run s defs (l.take i)).lv).drop q).length ∧ (n - Lay.start s n) ≤ Lay.top (((Lay.run s defs (l.take i)).lv).drop (q + 1)))))] ([iSl 33 4 tokF A4 c4 (o2 ++ List.replicate q (Lay.tok (defs + 2) n)), iSl 3 1 natF B4 d4 (lb (((Lay.run s defs (l.take i)).lv).drop q))]) [Sl 4 tokF A l]
          first | refine c_dec rfl (fun h85 => ?_) (fun h85 => ?_) | refine c_cond rfl (fun h85 => ?_) (fun h85 => ?_)
          · skip
            refine c_skip ?_
            refine c_block ?_
            refine c_seq ?_
            refine c_rowcap (e := 3) (size := 1) (f := natF) (A := B4) (c := d4) (es := lb (((Lay.run s defs (l.take i)).lv).drop q)) (by repeat (first | exact List.Mem.head _ | apply List.Mem.tail)) (fun hcap => ?_)
            refine c_reg ?_
            refine l_q (by decide) (p_move rfl).q ?_
            refine l_q (by decide) (p_move rfl).q ?_
            refine l_q (by decide) (p_len_sl Try.underlying35 rfl).q ?_
            first | refine l_q (by decide) (p_sub (j := 1) rfl rfl rfl rfl (by omega) (by show _ ≤ (9223372036854775807 : Nat); omega)).q ?_ | refine l_q (by decide) (p_subi rfl rfl (by show (-9223372036854775808 : Int) ≤ _; omega) (by show _ ≤ ((9223372036854775807 : Nat) : Int); omega)).q ?_
            first | refine l_q (by decide) (p_part_h Try.underlying35 inf_3 rfl rfl rfl (by omega) (by omega)).q ?_ | refine l_q (by decide) (p_slices_h Try.underlying35 inf_3 rfl rfl rfl (by omega)).q ?_
            refine l_q (by decide) (p_assign rfl).q ?_
            refine l_nil ?_
            refine c_reg ?_
            refine l_q (by decide) (p_move rfl).q ?_
            refine l_q (by decide) (p_move rfl).q ?_
            first | refine l_q (by decide) (p_add (j := 2) rfl rfl rfl rfl (by show _ ≤ (9223372036854775807 : Nat); omega)).q ?_ | refine l_q (by decide) (p_addi rfl rfl (by show (-9223372036854775808 : Int) ≤ _; omega) (by show _ ≤ ((9223372036854775807 : Nat) : Int); omega)).q ?_
            refine l_q (by decide) (p_move rfl).q ?_
            refine l_q (by decide) (p_build (cells := #[_, _, _, _]) inf_33 pl_33 rfl rfl).q ?_
            refine l_buildSlice (by decide) Try.underlying22 inf_33 (by decide) (by decide) rfl rfl rfl rfl (fun b96 => ?_)
            refine l_perm (.cons _ (front1 _ _ _)) ?_
            refine l_perm (front1 _ _ _) ?_
            refine l_cut ((lb (((Lay.run s defs (l.take i)).lv).drop q)).length - 1) len_natF (by omega) ?_
            rw [lb_cut _ q (by omega), show (lb (((Lay.run s defs (l.take i)).lv).drop q)).length - 1 = (lb (((Lay.run s defs (l.take i)).lv).drop (q + 1))).length by rw [lb_len, lb_len, List.length_drop, List.length_drop]; omega]
            generalize hB5 : subA B4 d4 0 1 = B5
            refine l_perm (front1 _ _ _) ?_
            refine l_perm (.cons _ (front1 _ _ _)) ?_
            first | (refine l_append1 (Lay.tok (defs + 2) n) (by decide) Try.underlying22 inf_33 rfl (by decide) rfl rfl rfl rfl rfl rfl (by (try simp only [List.length_append, List.length_replicate, List.length_cons, List.length_nil]); omega) (by (try simp only [List.length_append, List.length_replicate, List.length_cons, List.length_nil]); omega) (fun A97 c97 hA97 => ?_)) | (refine l_perm (.cons _ (front1 _ _ _)) ?_; refine l_append1 (Lay.tok (defs + 2) n) (by decide) Try.underlying22 inf_33 rfl (by decide) rfl rfl rfl rfl rfl rfl (by (try simp only [List.length_append, List.length_replicate, List.length_cons, List.length_nil]); omega) (by (try simp only [List.length_append, List.length_replicate, List.length_cons, List.length_nil]); omega) (fun A97 c97 hA97 => ?_)) | (refine l_perm (.cons _ (front2 _ _ _ _)) ?_; refine l_append1 (Lay.tok (defs + 2) n) (by decide) Try.underlying22 inf_33 rfl (by decide) rfl rfl rfl rfl rfl rfl (by (try simp only [List.length_append, List.length_replicate, List.length_cons, List.length_nil]); omega) (by (try simp only [List.length_append, List.length_replicate, List.length_cons, List.length_nil]); omega) (fun A97 c97 hA97 => ?_))
            refine l_q (by decide) (p_assign rfl).q ?_
            refine l_nil ?_
            refine c_join ((q + 1), (A97), (c97), (B5), (d4)) ?_ ?_ ?_ ?_
            · show ((q + 1) ≤ Lay.pops (n - Lay.start s n) (Lay.run s defs (l.take i)).lv) ∧ Lay.pops (n - Lay.start s n) (Lay.run s defs (l.take i)).lv - (q + 1) < Lay.pops (n - Lay.start s n) (Lay.run s defs (l.take i)).lv - q
              exact ⟨by omega, by omega⟩
            · exact ⟨rfl, rfl, rfl, (by rw [rep_more]; rfl), rfl, rfl, rfl, rfl, trivial⟩
            · show List.Perm _ ([iSl 33 4 tokF (A97) (c97) (o2 ++ List.replicate (q + 1) (Lay.tok (defs + 2) n)), iSl 3 1 natF (B5) (d4) (lb (((Lay.run s defs (l.take i)).lv).drop (q + 1)))])
              rw [rep_more]
              repeat (first | exact List.Perm.refl _ | refine List.Perm.cons _ ?_ | refine (front1 _ _ _).trans (List.Perm.cons _ ?_) | refine (front2 _ _ _ _).trans (List.Perm.cons _ ?_) | refine (front3 _ _ _ _ _).trans (List.Perm.cons _ ?_) | refine (front4 _ _ _ _ _ _).trans (List.Perm.cons _ ?_))
            · exact fun _ h => h
          · skip
            refine c_exit ?_
            refine c_here ?_
            refine c_join (o2 ++ List.replicate q (Lay.tok (defs + 2) n), ((Lay.run s defs (l.take i)).lv).drop q, A4, c4, B4, d4) ?inv ?sub ?perm ?facts
            case sub => exact ⟨rfl, rfl, rfl, rfl, rfl, rfl, trivial⟩
            case perm =>
              repeat (first | exact List.Perm.refl _ | refine List.Perm.cons _ ?_ | refine (front1 _ _ _).trans (List.Perm.cons _ ?_) | refine (front2 _ _ _ _).trans (List.Perm.cons _ ?_) | refine (front3 _ _ _ _ _).trans (List.Perm.cons _ ?_) | refine (front4 _ _ _ _ _ _).trans (List.Perm.cons _ ?_))
            case facts => exact fun _ h => h
            case inv =>
              rw [hrt, Lay.step_other (by rw [hn2]; exact h42), hn2, (line_out (defs := defs) (p := n) (f := (Lay.run s defs (l.take i)).last.isNone) h53).1, (line_out (defs := defs) (p := n) (f := true) h53).2, hrn, ho2, show q = Lay.pops (n - Lay.start s n) (Lay.run s defs (l.take i)).lv by omega]; simp
      · skip
        refine c_skip ?_
        refine c_join ((Lay.run s defs (l.take i)).out, (Lay.run s defs (l.take i)).lv, A2, c2, B2, d2) ?inv ?sub ?perm ?facts
        case sub => exact ⟨rfl, rfl, rfl, rfl, rfl, rfl, trivial⟩
        case perm =>
          repeat (first | exact List.Perm.refl _ | refine List.Perm.cons _ ?_ | refine (front1 _ _ _).trans (List.Perm.cons _ ?_) | refine (front2 _ _ _ _).trans (List.Perm.cons _ ?_) | refine (front3 _ _ _ _ _).trans (List.Perm.cons _ ?_) | refine (front4 _ _ _ _ _ _).trans (List.Perm.cons _ ?_))
        case facts => exact fun _ h => h
        case inv =>
          have hlast : (Lay.run s defs (l.take i)).last = some (Lay.start s n) := Classical.not_not.1 h42
          rw [hrt, Lay.step_same (by rw [hn2]; exact hlast), hlast]
    rintro ⟨o3, lv2, A3, c3, B3, d3⟩ hmeet
    have hmeet : Lay.run s defs (l.take (i + 1)) = ⟨o3 ++ [u], lv2, some (Lay.start s n)⟩ := hmeet
    have hrs := hmeet
    show Cont _ _ _ _ [(0, .slice A l.length c), (1, str s), (2, .int .i64 defs), (7, .slice A3 (o3).length c3), (8, .slice B3 (lb lv2).length d3), (9, .int .i64 (i : Int))] ([iSl 33 4 tokF A3 c3 (o3), iSl 3 1 natF B3 d3 (lb (lv2))]) [Sl 4 tokF A l]
    have hol := Lay.run_take_len s defs l (i + 1)
    rw [hrs] at hol
    simp only [List.length_append, List.length_cons, List.length_nil] at hol
    refine c_reg ?_
    refine l_q (by decide) (p_move rfl).q ?_
    refine l_q (by decide) (p_move rfl).q ?_
    refine l_q (by decide) (p_move rfl).q ?_
    first | refine l_q (by decide) (r_index Try.underlying22 inf_33 rfl rfl rfl (by first | exact .fact (by repeat (first | exact List.Mem.head _ | apply List.Mem.tail)) | exact .own (by repeat (first | exact List.Mem.head _ | apply List.Mem.tail)) (by decide) (fun _ => rfl)) rfl (by omega)).q ?_ | refine l_q (by decide) (r_index Try.underlying22 inf_33 rfl rfl rfl (by first | exact .fact (by repeat (first | exact List.Mem.head _ | apply List.Mem.tail)) | exact .own (by repeat (first | exact List.Mem.head _ | apply List.Mem.tail)) (by decide) (fun _ => rfl)) rfl (by decide)).q ?_ | refine l_q (by decide) (p_indexo Try.underlying22 inf_33 rfl rfl rfl (by omega)).q ?_
    first | refine l_q (by decide) (r_loada Try.underlying33 rfl inf_33 rfl (by first | exact .fact (by repeat (first | exact List.Mem.head _ | apply List.Mem.tail)) | exact .own (by repeat (first | exact List.Mem.head _ | apply List.Mem.tail)) (by decide) (fun _ => rfl)) (by assumption)).q ?_ | refine l_q (by decide) (r_loadow Try.underlying33 rfl inf_33 rfl (by repeat (first | exact List.Mem.head _ | apply List.Mem.tail)) (by rfl)).q ?_ | refine l_q (by decide) (r_loadoa Try.underlying33 rfl inf_33 rfl (by repeat (first | exact List.Mem.head _ | apply List.Mem.tail)) (by rfl) (fun j u h => h)).q ?_
    refine l_buildSlice (by decide) Try.underlying22 inf_33 (by decide) (by decide) rfl rfl rfl rfl (fun b103 => ?_)
    first | (refine l_append1 (u) (by decide) Try.underlying22 inf_33 rfl (by decide) rfl rfl rfl rfl rfl rfl (by (try simp only [List.length_append, List.length_replicate, List.length_cons, List.length_nil]); omega) (by (try simp only [List.length_append, List.length_replicate, List.length_cons, List.length_nil]); omega) (fun A104 c104 hA104 => ?_)) | (refine l_perm (.cons _ (front1 _ _ _)) ?_; refine l_append1 (u) (by decide) Try.underlying22 inf_33 rfl (by decide) rfl rfl rfl rfl rfl rfl (by (try simp only [List.length_append, List.length_replicate, List.length_cons, List.length_nil]); omega) (by (try simp only [List.length_append, List.length_replicate, List.length_cons, List.length_nil]); omega) (fun A104 c104 hA104 => ?_)) | (refine l_perm (.cons _ (front2 _ _ _ _)) ?_; refine l_append1 (u) (by decide) Try.underlying22 inf_33 rfl (by decide) rfl rfl rfl rfl rfl rfl (by (try simp only [List.length_append, List.length_replicate, List.length_cons, List.length_nil]); omega) (by (try simp only [List.length_append, List.length_replicate, List.length_cons, List.length_nil]); omega) (fun A104 c104 hA104 => ?_))
    refine l_q (by decide) (p_assign rfl).q ?_
    refine l_nil ?_
    refine c_reg ?_
    refine l_q (by decide) (p_move rfl).q ?_
    first | refine l_q (by decide) (p_add (j := 1) rfl rfl rfl rfl (by show _ ≤ (9223372036854775807 : Nat); omega)).q ?_ | refine l_q (by decide) (p_addi rfl rfl (by show (-9223372036854775808 : Int) ≤ _; omega) (by show _ ≤ ((9223372036854775807 : Nat) : Int); omega)).q ?_
    refine l_q (by decide) (p_assign rfl).q ?_
    refine l_nil ?_
    refine c_join ((i + 1), (A104), (c104), (B3), (d3)) ?_ ?_ ?_ ?_
    · show ((i + 1) ≤ l.length) ∧ l.length - (i + 1) < l.length - i
      exact ⟨by omega, by omega⟩
    · exact ⟨rfl, rfl, rfl, (by rw [hrs]; rfl), (by rw [hrs]; rfl), rfl, trivial⟩
    · show List.Perm _ ([iSl 33 4 tokF (A104) (c104) ((Lay.run s defs (l.take (i + 1))).out), iSl 3 1 natF (B3) (d3) (lb ((Lay.run s defs (l.take (i + 1))).lv))])
      rw [hrs]
      repeat (first | exact List.Perm.refl _ | refine List.Perm.cons _ ?_ | refine (front1 _ _ _).trans (List.Perm.cons _ ?_) | refine (front2 _ _ _ _).trans (List.Perm.cons _ ?_) | refine (front3 _ _ _ _ _).trans (List.Perm.cons _ ?_) | refine (front4 _ _ _ _ _ _).trans (List.Perm.cons _ ?_))
    · exact fun _ h => h
  · skip
    have hfull : l.take i = l := List.take_of_length_le (by omega)
    rw [hfull]
    have hol := Lay.run_len s defs l
    generalize ho3 : (Lay.run s defs l).out = o3 at hol ⊢
    generalize hlv3 : (Lay.run s defs l).lv = lv3 at hol ⊢
    have hlb3 := lb_len lv3
    refine c_exit ?_
    refine c_here ?_
    refine c_seq ?_
    refine c_seq ?_
    refine c_reg ?_
    refine l_q (by decide) (p_move rfl).q ?_
    refine l_q (by decide) (p_len_sl Try.underlying22 rfl).q ?_
    first | refine l_q (by decide) (p_gtr (j := 0) rfl rfl rfl rfl).q ?_ | refine l_q (by decide) (p_gtri rfl rfl).q ?_
    refine l_nil ?_
    first | refine c_dec rfl (fun h107 => ?_) (fun h107 => ?_) | refine c_cond rfl (fun h107 => ?_) (fun h107 => ?_)
    · skip
      refine c_seq ?_
      refine c_reg ?_
      refine l_q (by decide) (p_move rfl).q ?_
      refine l_q (by decide) (p_move rfl).q ?_
      refine l_q (by decide) (p_move rfl).q ?_
      refine l_q (by decide) (p_len_str Try.underlying9 rfl).q ?_
      refine l_q (by decide) (p_build (cells := #[_, _, _, _]) inf_33 pl_33 rfl rfl).q ?_
      refine l_buildSlice (by decide) Try.underlying22 inf_33 (by decide) (by decide) rfl rfl rfl rfl (fun b113 => ?_)
      first | (refine l_append1 (Lay.tok defs s.length) (by decide) Try.underlying22 inf_33 rfl (by decide) rfl rfl rfl rfl rfl rfl (by (try simp only [List.length_append, List.length_replicate, List.length_cons, List.length_nil]); omega) (by (try simp only [List.length_append, List.length_replicate, List.length_cons, List.length_nil]); omega) (fun A114 c114 hA114 => ?_)) | (refine l_perm (.cons _ (front1 _ _ _)) ?_; refine l_append1 (Lay.tok defs s.length) (by decide) Try.underlying22 inf_33 rfl (by decide) rfl rfl rfl rfl rfl rfl (by (try simp only [List.length_append, List.length_replicate, List.length_cons, List.length_nil]); omega) (by (try simp only [List.length_append, List.length_replicate, List.length_cons, List.length_nil]); omega) (fun A114 c114 hA114 => ?_)) | (refine l_perm (.cons _ (front2 _ _ _ _)) ?_; refine l_append1 (Lay.tok defs s.length) (by decide) Try.underlying22 inf_33 rfl (by decide) rfl rfl rfl rfl rfl rfl (by (try simp only [List.length_append, List.length_replicate, List.length_cons, List.length_nil]); omega) (by (try simp only [List.length_append, List.length_replicate, List.length_cons, List.length_nil]); omega) (fun A114 c114 hA114 => ?_))
      refine l_q (by decide) (p_assign rfl).q ?_
      refine l_nil ?_
      refine c_seq ?_
      refine c_reg ?_
      refine l_q (by decide) (p_assign (v := .int .i64 ((1 : Nat) : Int)) rfl).q ?_
      refine l_nil ?_
      refine c_block ?_
      refine c_loop (S := Nat × Option Addr × Nat) (fun zs => zs.1 ≤ lv3.length) (fun zs => lv3.length - zs.1) (fun zs => [(1, str s), (2, .int .i64 defs), (7, .slice zs.2.1 (o3 ++ [Lay.tok defs s.length] ++ List.replicate zs.1 (Lay.tok (defs + 2) s.length)).length zs.2.2), (8, .slice B2 (lb lv3).length d2), (13, .int .i64 ((zs.1 + 1 : Nat) : Int))]) (fun zs => [iSl 33 4 tokF zs.2.1 zs.2.2 (o3 ++ [Lay.tok defs s.length] ++ List.replicate zs.1 (Lay.tok (defs + 2) s.length)), iSl 3 1 natF B2 d2 (lb (lv3))]) (fun zs => [Sl 4 tokF A l]) (0, A114, c114) ?_ ?_ ?_ ?_ ?_
      · show (0) ≤ lv3.length
        exact Nat.zero_le _
      · exact ⟨rfl, rfl, (by rw [List.replicate_zero, List.append_nil]; rfl), rfl, rfl, trivial⟩
      · exact by rw [List.replicate_zero, List.append_nil]
      · simp
      rintro ⟨q, A4, c4⟩ hinv
      have hinv : q ≤ lv3.length := hinv
      have hq4 := hinv
      show Cont _ _ _ _ [(1, str s), (2, .int .i64 defs), (7, .slice A4 (o3 ++ [Lay.tok defs s.length] ++ List.replicate q (Lay.tok (defs + 2) s.length)).length c4), (8, .slice B2 (lb lv3).length d2), (13, .int .i64 ((q + 1 : Nat) : Int))] ([iSl 33 4 tokF A4 c4 (o3 ++ [Lay.tok defs s.length] ++ List.replicate q (Lay.tok (defs + 2) s.length)), iSl 3 1 natF B2 d2 (lb (lv3))]) [Sl 4 tokF A l]
      refine c_seq ?_
      refine c_seq ?_
      refine c_reg ?_
      refine l_q (by decide) (p_move rfl).q ?_
      refine l_q (by decide) (p_move rfl).q ?_
      refine l_q (by decide) (p_len_sl Try.underlying35 rfl).q ?_
      first | refine l_q (by decide) (p_lss rfl rfl rfl rfl).q ?_ | refine l_q (by decide) (p_lssi rfl rfl).q ?_
      refine l_nil ?_
      first | refine c_dec rfl (fun h118 => ?_) (fun h118 => ?_) | refine c_cond rfl (fun h118 => ?_) (fun h118 => ?_)
      · skip
        refine c_skip ?_
        refine c_seq ?_
        refine c_block ?_
        refine c_reg ?_
        refine l_q (by decide) (p_move rfl).q ?_
        refine l_q (by decide) (p_move rfl).q ?_
        first | refine l_q (by decide) (p_add (j := 2) rfl rfl rfl rfl (by show _ ≤ (9223372036854775807 : Nat); omega)).q ?_ | refine l_q (by decide) (p_addi rfl rfl (by show (-9223372036854775808 : Int) ≤ _; omega) (by show _ ≤ ((9223372036854775807 : Nat) : Int); omega)).q ?_
        refine l_q (by decide) (p_move rfl).q ?_
        refine l_q (by decide) (p_len_str Try.underlying9 rfl).q ?_
        refine l_q (by decide) (p_build (cells := #[_, _, _, _]) inf_33 pl_33 rfl rfl).q ?_
        refine l_buildSlice (by decide) Try.underlying22 inf_33 (by decide) (by decide) rfl rfl rfl rfl (fun b127 => ?_)
        first | (refine l_append1 (Lay.tok (defs + 2) s.length) (by decide) Try.underlying22 inf_33 rfl (by decide) rfl rfl rfl rfl rfl rfl (by (try simp only [List.length_append, List.length_replicate, List.length_cons, List.length_nil]); omega) (by (try simp only [List.length_append, List.length_replicate, List.length_cons, List.length_nil]); omega) (fun A128 c128 hA128 => ?_)) | (refine l_perm (.cons _ (front1 _ _ _)) ?_; refine l_append1 (Lay.tok (defs + 2) s.length) (by decide) Try.underlying22 inf_33 rfl (by decide) rfl rfl rfl rfl rfl rfl (by (try simp only [List.length_append, List.length_replicate, List.length_cons, List.length_nil]); omega) (by (try simp only [List.length_append, List.length_replicate, List.length_cons, List.length_nil]); omega) (fun A128 c128 hA128 => ?_)) | (refine l_perm (.cons _ (front2 _ _ _ _)) ?_; refine l_append1 (Lay.tok (defs + 2) s.length) (by decide) Try.underlying22 inf_33 rfl (by decide) rfl rfl rfl rfl rfl rfl (by (try simp only [List.length_append, List.length_replicate, List.length_cons, List.length_nil]); omega) (by (try simp only [List.length_append, List.length_replicate, List.length_cons, List.length_nil]); omega) (fun A128 c128 hA128 => ?_))
        refine l_q (by decide) (p_assign rfl).q ?_
        refine l_nil ?_
        refine c_reg ?_
        refine l_q (by decide) (p_move rfl).q ?_
        first | refine l_q (by decide) (p_add (j := 1) rfl rfl rfl rfl (by show _ ≤ (9223372036854775807 : Nat); omega)).q ?_ | refine l_q (by decide) (p_addi rfl rfl (by show (-9223372036854775808 : Int) ≤ _; omega) (by show _ ≤ ((9223372036854775807 : Nat) : Int); omega)).q ?_
        refine l_q (by decide) (p_assign rfl).q ?_
        refine l_nil ?_
        refine c_join ((q + 1), (A128), (c128)) ?_ ?_ ?_ ?_
        · show ((q + 1) ≤ lv3.length) ∧ lv3.length - (q + 1) < lv3.length - q
          exact ⟨by omega, by omega⟩
        · exact ⟨rfl, rfl, (by rw [rep_more]; rfl), rfl, rfl, trivial⟩
        · show List.Perm _ ([iSl 33 4 tokF (A128) (c128) (o3 ++ [Lay.tok defs s.length] ++ List.replicate (q + 1) (Lay.tok (defs + 2) s.length)), iSl 3 1 natF B2 d2 (lb (lv3))])
          rw [rep_more]
        · exact fun _ h => h
      · skip
        refine c_exit ?_
        refine c_here ?_
        refine c_seq ?_
        refine c_reg ?_
        refine l_q (by decide) (p_move rfl).q ?_
        refine l_q (by decide) (p_assign rfl).q ?_
        refine l_nil ?_
        refine c_ret ?_
        refine c_ret1 rfl rfl (fun w hs => ?_)
        have g := hs.give (e := 33) (size := 4) (f := tokF) (es := o3 ++ [Lay.tok defs s.length] ++ List.replicate q (Lay.tok (defs + 2) s.length)) (by repeat (first | exact List.Mem.head _ | apply List.Mem.tail)) (by decide) len_tokF
        have he : o3 ++ [Lay.tok defs s.length] ++ List.replicate q (Lay.tok (defs + 2) s.length) = Lay.app l s defs := by rw [app_end h107, ho3, hlv3, show q = lv3.length by omega]
        rw [he] at g
        exact ⟨(_, _), by rw [← he], g.1, g.2.1, hs.ext⟩
    · skip
      refine c_skip ?_
      refine c_seq ?_
      refine c_reg ?_
      refine l_q (by decide) (p_move rfl).q ?_
      refine l_q (by decide) (p_assign rfl).q ?_
      refine l_nil ?_
      refine c_ret ?_
      refine c_ret1 rfl rfl (fun w hs => ?_)
      obtain ⟨he, rfl⟩ := app_nil (s := s) (defs := defs) h107
      have g := hs.give (e := 33) (size := 4) (f := tokF) (es := o3) (by repeat (first | exact List.Mem.head _ | apply List.Mem.tail)) (by decide) len_tokF
      subst ho3
      rw [he]
      exact ⟨(_, _), rfl, g.1, g.2.1, hs.ext⟩
end Go.Proofs.Ytejhgbnpmelgcaa
