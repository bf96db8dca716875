/- The walks of textdiff, seventh part; conditions: none. -/
import Derived.Test.YtnkmemoagimddaaWalksF
namespace Go.Proofs.Ytnkmemoagimddaa
open Go Go.Fx Go.Proofs

theorem size_take (l : List Td.E) (k : Nat) (e : Td.E) (h : l[k]? = some e) : Td.size (l.take (k + 1)) = Td.size (l.take k) + e.del + e.ins.length := by
  rw [List.take_add_one, h]; simp [Td.size]; omega
theorem size_take_le (l : List Td.E) (k : Nat) : Td.size (l.take k) ≤ Td.size l := by
  have : Td.size l = Td.size (l.take k) + Td.size (l.drop k) := by
    conv => lhs; rw [← List.take_append_drop k l]
    unfold Td.size; rw [List.map_append, List.sum_append]
  omega
theorem tog_at : ∀ (a : List UInt8) (l : List Td.E) (lo : Nat) (r : List UInt8), Td.tog a lo l = some r → ∀ (k : Nat) (e : Td.E), l[k]? = some e → e.at_ ≤ a.length
  | _, [], _, _, _, k, e, h => by simp at h
  | a, x :: l, lo, r, ht, k, e, h => by
    obtain ⟨_, h2, _, s, h4, _⟩ := tog_step ht
    cases k with
    | zero => simp at h; subst h; exact h2
    | succ k => exact tog_at a l _ s h4 k e (by simpa using h)
theorem sep_at : ∀ (l : List Td.E) (lo k : Nat) (e e' : Td.E), Td.Sep lo l → l[k]? = some e → l[k + 1]? = some e' → e.at_ + e.del < e'.at_
  | [], _, _, _, _, _, h, _ => by simp at h
  | x :: l, lo, 0, e, e', hs, h, h' => by
    simp at h; subst h
    cases l with
    | nil => simp at h'
    | cons y l => simp at h'; subst h'; have := hs.2.1; omega
  | x :: l, lo, k + 1, e, e', hs, h, h' => sep_at l _ k e e' hs.2 (by simpa using h) (by simpa using h')
theorem diff_len (a b : List UInt8) : ∀ (l : List Td.E) (lo : Nat), Td.Sep lo l → ∀ r, Td.tog a lo l = some r → l.length ≤ a.length + 1 - lo + 0 ∨ l = []
  | [], _, _, _, _ => .inr rfl
  | e :: l, lo, hs, r, h => by
    obtain ⟨h1, h2, h3, s, hs2, _⟩ := tog_step h
    left
    cases l with
    | nil => simp; omega
    | cons e2 l2 =>
      have hd := hs.2
      obtain ⟨g1, g2, _⟩ := tog_step hs2
      have h4 : e.at_ + e.del + 1 ≤ e2.at_ := hd.1
      have key : Td.tog a (e.at_ + e.del + 1) (e2 :: l2) ≠ none := by
        unfold Td.tog
        rw [if_neg (by obtain ⟨g1, g2, g3, _⟩ := tog_step hs2; omega)]
        obtain ⟨_, _, _, s3, g4, _⟩ := tog_step hs2
        rw [g4]; simp
      obtain ⟨r2, hr2⟩ := Option.ne_none_iff_exists'.1 key
      rcases diff_len a b (e2 :: l2) _ hd r2 hr2 with h5 | h5
      · simp only [List.length_cons] at h5 ⊢; omega
      · cases h5
theorem diff_short (a b : List UInt8) : (Td.diff a b).length ≤ a.length + 1 := by
  rcases diff_len a b _ 0 (Td.diff_sep a b) _ (Td.diff_tog a b) with h | h
  · omega
  · rw [h]; simp
theorem call_10 : Callable Try.prog 10 := ⟨_, Try.func10, by kernel_rfl, rfl⟩
theorem call_11 : Callable Try.prog 11 := ⟨_, Try.func11, by kernel_rfl, rfl⟩
theorem call_12 : Callable Try.prog 12 := ⟨_, Try.func12, by kernel_rfl, rfl⟩
theorem call_13 : Callable Try.prog 13 := ⟨_, Try.func13, by kernel_rfl, rfl⟩
theorem call_14 : Callable Try.prog 14 := ⟨_, Try.func14, by kernel_rfl, rfl⟩
theorem call_15 : Callable Try.prog 15 := ⟨_, Try.func15, by kernel_rfl, rfl⟩
theorem call_16 : Callable Try.prog 16 := ⟨_, Try.func16, by kernel_rfl, rfl⟩
theorem call_17 : Callable Try.prog 17 := ⟨_, Try.func17, by kernel_rfl, rfl⟩
theorem call_18 : Callable Try.prog 18 := ⟨_, Try.func18, by kernel_rfl, rfl⟩
theorem distance2_ok (a b : List UInt8) (hal : a.length ≤ 1000) (hbl : b.length ≤ 1000) (w : World) :
    Calls Try.prog 13 #[str a, str b] w (Ret fun v w' => v = .int .i64 (Td.D a b : Int) ∧ Ext [] w w') := by
  have h0 : (Td.full a b)[0]? = some (Td.D a b) := by
    have := Td.full_at a b 0 0 (Nat.zero_le _) (Nat.zero_le _)
    simpa using this
  have hlt := (List.getElem?_eq_some_iff.1 h0).1
  refine calls_fx (l := [str a, str b]) Try.func13 rfl Try.ntmps13 (Nat.le_of_ble_eq_true rfl) (St.start w) ?_
  refine c_seq ?_
  refine c_reg ?_
  refine l_q (by decide) (p_assign (v := .int .i64 ((0 : Nat) : Int)) rfl).q ?_
  refine l_nil ?_
  refine c_seq ?_
  refine c_reg ?_
  refine l_q (by decide) (p_move rfl).q ?_
  refine l_q (by decide) (p_move rfl).q ?_
  refine l_call (X := Nat) (fun x => .slice (some ⟨x, 0, none⟩) (Td.full a b).length ((a.length + 1) * (b.length + 1))) (fun x => Sl 1 natF (some ⟨x, 0, none⟩) (Td.full a b)) (by decide) call_23 rfl (fun w hs => table_ok a b hal hbl w) (fun tx => ?_)
  first | refine l_q (by decide) (r_index (j := 0) Try.underlying41 inf_3 rfl rfl rfl (by first | exact .fact (by repeat (first | exact List.Mem.head _ | apply List.Mem.tail)) | exact .own (by repeat (first | exact List.Mem.head _ | apply List.Mem.tail)) (by decide) (fun _ => rfl)) rfl (by omega)).q ?_ | refine l_q (by decide) (r_index (j := 0) Try.underlying41 inf_3 rfl rfl rfl (by first | exact .fact (by repeat (first | exact List.Mem.head _ | apply List.Mem.tail)) | exact .own (by repeat (first | exact List.Mem.head _ | apply List.Mem.tail)) (by decide) (fun _ => rfl)) rfl (by decide)).q ?_ | refine l_q (by decide) (p_indexo (j := 0) Try.underlying41 inf_3 rfl rfl rfl (by omega)).q ?_
  first | refine l_q (by decide) (r_loado Try.underlying3 rfl rfl (by repeat (first | exact List.Mem.head _ | apply List.Mem.tail)) (by rfl)).q ?_ | refine l_q (by decide) (r_load1 Try.underlying3 rfl rfl (by first | exact .fact (by repeat (first | exact List.Mem.head _ | apply List.Mem.tail)) | exact .own (by repeat (first | exact List.Mem.head _ | apply List.Mem.tail)) (by decide) (fun _ => rfl)) (by first | assumption | rfl) (by rfl)).q ?_ | refine l_q (by decide) (r_loadf Try.underlying3 rfl rfl (by first | exact .fact (by repeat (first | exact List.Mem.head _ | apply List.Mem.tail)) | exact .own (by repeat (first | exact List.Mem.head _ | apply List.Mem.tail)) (by decide) (fun _ => rfl)) (by assumption) (by rfl)).q ?_
  refine l_q (by decide) (p_assign rfl).q ?_
  refine l_nil ?_
  refine c_ret ?_
  refine c_ret1 rfl rfl (fun w hs => ?_)
  exact ⟨rfl, hs.ext⟩

theorem awake_ok (w : World) :
    Calls Try.prog 10 #[] w (Ret fun v w' => v = .bool true ∧ Ext [] w w') := by
  refine calls_fx (l := []) Try.func10 rfl Try.ntmps10 (Nat.le_of_ble_eq_true rfl) (St.start w) ?_
  refine c_seq ?_
  refine c_reg ?_
  refine l_q (by decide) (p_assign rfl).q ?_
  refine l_nil ?_
  refine c_seq ?_
  refine c_reg ?_
  refine l_q (by decide) (q_call call_12 rfl (fun w hs => distance_as [107, 105, 116, 116, 101, 110] [115, 105, 116, 116, 105, 110, 103] 5 (by decide +kernel) (by decide) (by decide) w)) ?_
  first | refine l_q (by decide) (((p_eql (j := 5) rfl rfl rfl rfl)).to (u := .bool true) (rfl)).q ?_ | refine l_q (by decide) (((p_eqli rfl rfl)).to (u := .bool true) (rfl)).q ?_
  refine l_q (by decide) (p_move rfl).q ?_
  refine l_strip (j := 2) rfl rfl ?_
  refine l_call (X := Option Addr × Nat) (fun x => .slice x.1 1 x.2) (fun x => Sl 3 edF x.1 [⟨1, 1, [120]⟩]) (by decide) call_15 rfl (fun w hs => diff_as [97, 98, 99, 100] [97, 120, 99, 100] [⟨1, 1, [120]⟩] (by decide +kernel) (by decide) (by decide) w) (fun tx => ?_)
  refine l_g (j := 2) rfl rfl (by decide) (p_build (cells := #[_, _, _]) inf_30 pl_30 rfl rfl).q ?_
  refine l_strip (j := 2) rfl rfl ?_
  refine l_buildSlice (by decide) Try.underlying27 inf_30 (by decide) (by decide) rfl rfl rfl rfl (fun b6 => ?_)
  refine l_sealc edF [⟨1, 1, [120]⟩] rfl len_edF ?_
  refine l_g (j := 2) rfl rfl (by decide) (q_call call_14 rfl (fun w hs => same_true tx.1 (some ⟨b6, 0, none⟩) tx.2 1 [⟨1, 1, [120]⟩] [⟨1, 1, [120]⟩] rfl (by decide) w (hs.facts _ (by repeat (first | exact List.Mem.head _ | apply List.Mem.tail))).1 (hs.facts _ (by repeat (first | exact List.Mem.head _ | apply List.Mem.tail))).1)) ?_
  refine l_q (by decide) (p_pick rfl rfl).q ?_
  refine l_q (by decide) (p_move rfl).q ?_
  refine l_g (j := 8) rfl rfl (by decide) (q_call call_18 rfl (fun w hs => hull_as [97, 98, 99, 100] [97, 98, 120, 98, 99, 100] ⟨2, 0, [120, 98]⟩ (by decide +kernel) (by decide) (by decide) w)) ?_
  refine l_g (j := 8) rfl rfl (by decide) (p_build (cells := #[_, _, _]) inf_30 pl_30 rfl rfl).q ?_
  refine l_g (j := 8) rfl rfl (by decide) (((eq_ed (e := ⟨2, 0, [120, 98]⟩) (e' := ⟨2, 0, [120, 98]⟩) rfl rfl)).to (u := .bool true) (rfl)).q ?_
  refine l_q (by decide) (p_pick rfl rfl).q ?_
  refine l_q (by decide) (p_assign rfl).q ?_
  refine l_nil ?_
  refine c_ret ?_
  refine c_ret1 rfl rfl (fun w hs => ?_)
  exact ⟨rfl, hs.ext⟩

theorem distance_law (a b : List UInt8) (w : World) :
    Calls Try.prog 3 #[str a, str b] w (Ret fun v w' => v = .bool true ∧ Ext [] w w') := by
  refine calls_fx (l := [str a, str b]) Try.func3 rfl Try.ntmps3 (Nat.le_of_ble_eq_true rfl) (St.start w) ?_
  refine c_seq ?_
  refine c_reg ?_
  refine l_q (by decide) (p_assign rfl).q ?_
  refine l_nil ?_
  refine c_seq ?_
  refine c_seq ?_
  refine c_reg ?_
  refine l_q (by decide) (q_call call_10 rfl (fun w hs => awake_ok w)) ?_
  refine l_q (by decide) (p_not rfl).q ?_
  refine l_nil ?_
  refine c_false rfl ?_
  refine c_skip ?_
  refine c_seq ?_
  refine c_reg ?_
  refine l_q (by decide) (p_move rfl).q ?_
  refine l_q (by decide) (p_move rfl).q ?_
  refine l_q (by decide) (q_call call_11 rfl (fun w hs => few_ok a b w)) ?_
  first | refine l_q (by decide) (p_notd rfl).q ?_ | refine l_q (by decide) (p_not rfl).q ?_
  refine l_q (by decide) (p_move rfl).q ?_
  first | refine l_splitd (t := 11) rfl (fun h11 => ?_) (fun h11 => ?_) | refine l_splitb (t := 11) rfl (fun h11 => ?_) (fun h11 => ?_)
  · skip
    refine l_off (j := 4) rfl rfl (by first | (simp; done) | (simp [undef]; done)) (by decide) ?_
    refine l_off (j := 4) rfl rfl (by first | (simp; done) | (simp [undef]; done)) (by decide) ?_
    refine l_off (j := 4) rfl rfl (by first | (simp; done) | (simp [undef]; done)) (by decide) ?_
    refine l_off (j := 4) rfl rfl (by first | (simp; done) | (simp [undef]; done)) (by decide) ?_
    refine l_off (j := 4) rfl rfl (by first | (simp; done) | (simp [undef]; done)) (by decide) ?_
    refine l_off (j := 4) rfl rfl (by first | (simp; done) | (simp [undef]; done)) (by decide) ?_
    refine l_off (j := 4) rfl rfl (by first | (simp; done) | (simp [undef]; done)) (by decide) ?_
    refine l_q (by decide) (p_pick rfl rfl).q ?_
    refine l_q (by decide) (p_assign rfl).q ?_
    refine l_nil ?_
    refine c_ret ?_
    refine c_ret1 rfl rfl (fun w hs => ?_)
    exact ⟨rfl, hs.ext⟩
  · skip
    have hf := Classical.not_not.1 h11
    refine l_g (j := 4) rfl rfl (by decide) (p_move rfl).q ?_
    refine l_g (j := 4) rfl rfl (by decide) (p_move rfl).q ?_
    refine l_g (j := 4) rfl rfl (by decide) (q_call call_12 rfl (fun w hs => distance_ok a b (by omega) (by omega) w)) ?_
    refine l_g (j := 4) rfl rfl (by decide) (p_move rfl).q ?_
    refine l_g (j := 4) rfl rfl (by decide) (p_move rfl).q ?_
    refine l_g (j := 4) rfl rfl (by decide) (q_call call_13 rfl (fun w hs => distance2_ok a b (by omega) (by omega) w)) ?_
    first | refine l_g (j := 4) rfl rfl (by decide) (((p_eql rfl rfl rfl rfl)).to (u := .bool true) (by rw [decide_eq_true rfl])).q ?_ | refine l_g (j := 4) rfl rfl (by decide) (((p_eqli rfl rfl)).to (u := .bool true) (by rw [decide_eq_true rfl])).q ?_
    refine l_q (by decide) (p_pick rfl rfl).q ?_
    refine l_q (by decide) (p_assign rfl).q ?_
    refine l_nil ?_
    refine c_ret ?_
    refine c_ret1 rfl rfl (fun w hs => ?_)
    exact ⟨rfl, hs.ext⟩

theorem metric_law (a b c : List UInt8) (w : World) :
    Calls Try.prog 4 #[str a, str b, str c] w (Ret fun v w' => v = .bool true ∧ Ext [] w w') := by
  have hd1 := Td.D_le_sum a b
  have hd2 := Td.D_le_sum b c
  refine calls_fx (l := [str a, str b, str c]) Try.func4 rfl Try.ntmps4 (Nat.le_of_ble_eq_true rfl) (St.start w) ?_
  refine c_seq ?_
  refine c_reg ?_
  refine l_q (by decide) (p_assign rfl).q ?_
  refine l_nil ?_
  refine c_seq ?_
  refine c_seq ?_
  refine c_reg ?_
  refine l_q (by decide) (q_call call_10 rfl (fun w hs => awake_ok w)) ?_
  refine l_q (by decide) (p_not rfl).q ?_
  refine l_nil ?_
  refine c_false rfl ?_
  refine c_skip ?_
  refine c_seq ?_
  refine c_seq ?_
  refine c_meetn (S := Unit) (fun zs => True) (fun zs => [(0, str a), (1, str b), (2, str c), (19, .bool (decide (¬ (a.length ≤ 80 ∧ b.length ≤ 80) ∨ ¬ (b.length ≤ 80 ∧ c.length ≤ 80))))]) (fun zs => []) (fun zs => []) ?_ ?_
  · skip
    refine c_reg ?_
    refine l_q (by decide) (p_move rfl).q ?_
    refine l_q (by decide) (p_move rfl).q ?_
    refine l_q (by decide) (q_call call_11 rfl (fun w hs => few_ok a b w)) ?_
    first | refine l_q (by decide) (p_notd rfl).q ?_ | refine l_q (by decide) (p_not rfl).q ?_
    refine l_q (by decide) (p_move rfl).q ?_
    first | refine l_splitd (t := 14) rfl (fun h14 => ?_) (fun h14 => ?_) | refine l_splitb (t := 14) rfl (fun h14 => ?_) (fun h14 => ?_)
    · skip
      refine l_off (j := 4) rfl rfl (by first | (simp; done) | (simp [undef]; done)) (by decide) ?_
      refine l_off (j := 4) rfl rfl (by first | (simp; done) | (simp [undef]; done)) (by decide) ?_
      refine l_off (j := 4) rfl rfl (by first | (simp; done) | (simp [undef]; done)) (by decide) ?_
      refine l_off (j := 4) rfl rfl (by first | (simp; done) | (simp [undef]; done)) (by decide) ?_
      refine l_q (by decide) (p_pick rfl rfl).q ?_
      refine l_nil ?_
      refine c_join (()) ?inv ?sub ?perm ?facts
      case sub => exact ⟨rfl, rfl, rfl, (by first | rfl | exact congrArg (fun b => some (Value.bool b)) (decide_eq_true (by omega)).symm | exact congrArg (fun b => some (Value.bool b)) (decide_eq_false (by omega)).symm | exact congrArg (fun b => some (Value.bool b)) (decide_eq_decide.2 (by omega))), trivial⟩
      case perm =>
        exact .refl _
      case facts => exact fun _ h => h
      case inv =>
        trivial
    · skip
      refine l_g (j := 4) rfl rfl (by decide) (p_move rfl).q ?_
      refine l_g (j := 4) rfl rfl (by decide) (p_move rfl).q ?_
      refine l_g (j := 4) rfl rfl (by decide) (q_call call_11 rfl (fun w hs => few_ok b c w)) ?_
      first | refine l_g (j := 4) rfl rfl (by decide) (p_notd rfl).q ?_ | refine l_g (j := 4) rfl rfl (by decide) (p_not rfl).q ?_
      refine l_q (by decide) (p_pick rfl rfl).q ?_
      refine l_nil ?_
      refine c_join (()) ?inv ?sub ?perm ?facts
      case sub => exact ⟨rfl, rfl, rfl, (by first | rfl | exact congrArg (fun b => some (Value.bool b)) (decide_eq_true (by omega)).symm | exact congrArg (fun b => some (Value.bool b)) (decide_eq_false (by omega)).symm | exact congrArg (fun b => some (Value.bool b)) (decide_eq_decide.2 (by omega))), trivial⟩
      case perm =>
        exact .refl _
      case facts => exact fun _ h => h
      case inv =>
        trivial
  rintro uu hmeet
  show Cont _ _ _ _ [(0, str a), (1, str b), (2, str c), (19, .bool (decide (¬ (a.length ≤ 80 ∧ b.length ≤ 80) ∨ ¬ (b.length ≤ 80 ∧ c.length ≤ 80))))] ([]) []
  first | refine c_dec rfl (fun h19 => ?_) (fun h19 => ?_) | refine c_cond rfl (fun h19 => ?_) (fun h19 => ?_)
  · skip
    refine c_seq ?_
    refine c_reg ?_
    refine l_q (by decide) (p_assign rfl).q ?_
    refine l_nil ?_
    refine c_ret ?_
    refine c_ret1 rfl rfl (fun w hs => ?_)
    exact ⟨rfl, hs.ext⟩
  · skip
    refine c_skip ?_
    refine c_seq ?_
    refine c_reg ?_
    refine l_q (by decide) (p_move rfl).q ?_
    refine l_q (by decide) (p_move rfl).q ?_
    refine l_q (by decide) (q_call call_12 rfl (fun w hs => distance_ok a b (by omega) (by omega) w)) ?_
    refine l_q (by decide) (p_assign rfl).q ?_
    refine l_nil ?_
    refine c_seq ?_
    refine c_reg ?_
    refine l_q (by decide) (p_move rfl).q ?_
    refine l_q (by decide) (p_move rfl).q ?_
    refine l_q (by decide) (p_move rfl).q ?_
    refine l_q (by decide) (q_call call_12 rfl (fun w hs => distance_ok b a (by omega) (by omega) w)) ?_
    first | refine l_q (by decide) (((p_eql rfl rfl rfl rfl)).to (u := .bool true) (by rw [decide_eq_true (Td.D_symm a b)])).q ?_ | refine l_q (by decide) (((p_eqli rfl rfl)).to (u := .bool true) (by rw [decide_eq_true (Td.D_symm a b)])).q ?_
    refine l_q (by decide) (p_move rfl).q ?_
    refine l_g (j := 5) rfl rfl (by decide) (p_move rfl).q ?_
    first | refine l_g (j := 5) rfl rfl (by decide) (p_eql (j := 0) rfl rfl rfl rfl).q ?_ | refine l_g (j := 5) rfl rfl (by decide) (p_eqli rfl rfl).q ?_
    refine l_g (j := 5) rfl rfl (by decide) (p_move rfl).q ?_
    refine l_g (j := 5) rfl rfl (by decide) (p_move rfl).q ?_
    refine l_g (j := 5) rfl rfl (by decide) (p_eqs rfl rfl).q ?_
    refine l_g (j := 5) rfl rfl (by decide) (((p_eqb Try.underlying4 rfl rfl)).to (u := .bool true) (by rw [show decide (a = b) = decide (Td.D a b = 0) from decide_eq_decide.2 (Td.D_zero a b).symm]; simp)).q ?_
    refine l_q (by decide) (p_pick rfl rfl).q ?_
    refine l_q (by decide) (p_move rfl).q ?_
    refine l_g (j := 13) rfl rfl (by decide) (p_move rfl).q ?_
    first | refine l_g (j := 13) rfl rfl (by decide) (((p_geq (j := 0) rfl rfl rfl rfl)).to (u := .bool true) (by rw [decide_eq_true (Nat.zero_le _)])).q ?_ | refine l_g (j := 13) rfl rfl (by decide) (((p_geqi rfl rfl)).to (u := .bool true) (by rw [decide_eq_true (Nat.zero_le _)])).q ?_
    refine l_q (by decide) (p_pick rfl rfl).q ?_
    refine l_q (by decide) (p_move rfl).q ?_
    refine l_g (j := 17) rfl rfl (by decide) (p_move rfl).q ?_
    refine l_g (j := 17) rfl rfl (by decide) (p_move rfl).q ?_
    refine l_g (j := 17) rfl rfl (by decide) (q_call call_12 rfl (fun w hs => distance_ok a c (by omega) (by omega) w)) ?_
    refine l_g (j := 17) rfl rfl (by decide) (p_move rfl).q ?_
    refine l_g (j := 17) rfl rfl (by decide) (p_move rfl).q ?_
    refine l_g (j := 17) rfl rfl (by decide) (p_move rfl).q ?_
    refine l_g (j := 17) rfl rfl (by decide) (q_call call_12 rfl (fun w hs => distance_ok b c (by omega) (by omega) w)) ?_
    first | refine l_g (j := 17) rfl rfl (by decide) (p_add rfl rfl rfl rfl (by show _ ≤ (9223372036854775807 : Nat); omega)).q ?_ | refine l_g (j := 17) rfl rfl (by decide) (p_addi rfl rfl (by show (-9223372036854775808 : Int) ≤ _; omega) (by show _ ≤ ((9223372036854775807 : Nat) : Int); omega)).q ?_
    first | refine l_g (j := 17) rfl rfl (by decide) (((p_leq rfl rfl rfl rfl)).to (u := .bool true) (by rw [decide_eq_true (Td.D_triangle a b c)])).q ?_ | refine l_g (j := 17) rfl rfl (by decide) (((p_leqi rfl rfl)).to (u := .bool true) (by rw [decide_eq_true (Td.D_triangle a b c)])).q ?_
    refine l_q (by decide) (p_pick rfl rfl).q ?_
    refine l_q (by decide) (p_assign rfl).q ?_
    refine l_nil ?_
    refine c_ret ?_
    refine c_ret1 rfl rfl (fun w hs => ?_)
    exact ⟨rfl, hs.ext⟩

theorem common_law (a b c : List UInt8) (w : World) :
    Calls Try.prog 5 #[str a, str b, str c] w (Ret fun v w' => v = .bool true ∧ Ext [] w w') := by
  refine calls_fx (l := [str a, str b, str c]) Try.func5 rfl Try.ntmps5 (Nat.le_of_ble_eq_true rfl) (St.start w) ?_
  refine c_seq ?_
  refine c_reg ?_
  refine l_q (by decide) (p_assign rfl).q ?_
  refine l_nil ?_
  refine c_seq ?_
  refine c_seq ?_
  refine c_reg ?_
  refine l_q (by decide) (q_call call_10 rfl (fun w hs => awake_ok w)) ?_
  refine l_q (by decide) (p_not rfl).q ?_
  refine l_nil ?_
  refine c_false rfl ?_
  refine c_skip ?_
  refine c_seq ?_
  refine c_seq ?_
  refine c_meetn (S := Unit) (fun zs => True) (fun zs => [(0, str a), (1, str b), (2, str c), (18, .bool (decide (¬ (a.length ≤ 80 ∧ b.length ≤ 80) ∨ 20 < c.length)))]) (fun zs => []) (fun zs => []) ?_ ?_
  · skip
    refine c_reg ?_
    refine l_q (by decide) (p_move rfl).q ?_
    refine l_q (by decide) (p_move rfl).q ?_
    refine l_q (by decide) (q_call call_11 rfl (fun w hs => few_ok a b w)) ?_
    first | refine l_q (by decide) (p_notd rfl).q ?_ | refine l_q (by decide) (p_not rfl).q ?_
    refine l_q (by decide) (p_move rfl).q ?_
    first | refine l_splitd (t := 14) rfl (fun h14 => ?_) (fun h14 => ?_) | refine l_splitb (t := 14) rfl (fun h14 => ?_) (fun h14 => ?_)
    · skip
      refine l_off (j := 4) rfl rfl (by first | (simp; done) | (simp [undef]; done)) (by decide) ?_
      refine l_off (j := 4) rfl rfl (by first | (simp; done) | (simp [undef]; done)) (by decide) ?_
      refine l_off (j := 4) rfl rfl (by first | (simp; done) | (simp [undef]; done)) (by decide) ?_
      refine l_q (by decide) (p_pick rfl rfl).q ?_
      refine l_nil ?_
      refine c_join (()) ?inv ?sub ?perm ?facts
      case sub => exact ⟨rfl, rfl, rfl, (by first | rfl | exact congrArg (fun b => some (Value.bool b)) (decide_eq_true (by omega)).symm | exact congrArg (fun b => some (Value.bool b)) (decide_eq_false (by omega)).symm | exact congrArg (fun b => some (Value.bool b)) (decide_eq_decide.2 (by omega))), trivial⟩
      case perm =>
        exact .refl _
      case facts => exact fun _ h => h
      case inv =>
        trivial
    · skip
      refine l_g (j := 4) rfl rfl (by decide) (p_move rfl).q ?_
      refine l_g (j := 4) rfl rfl (by decide) (p_len_str Try.underlying9 rfl).q ?_
      first | refine l_g (j := 4) rfl rfl (by decide) (p_gtr (j := 20) rfl rfl rfl rfl).q ?_ | refine l_g (j := 4) rfl rfl (by decide) (p_gtri rfl rfl).q ?_
      refine l_q (by decide) (p_pick rfl rfl).q ?_
      refine l_nil ?_
      refine c_join (()) ?inv ?sub ?perm ?facts
      case sub => exact ⟨rfl, rfl, rfl, (by first | rfl | exact congrArg (fun b => some (Value.bool b)) (decide_eq_true (by omega)).symm | exact congrArg (fun b => some (Value.bool b)) (decide_eq_false (by omega)).symm | exact congrArg (fun b => some (Value.bool b)) (decide_eq_decide.2 (by omega))), trivial⟩
      case perm =>
        exact .refl _
      case facts => exact fun _ h => h
      case inv =>
        trivial
  rintro uu hmeet
  show Cont _ _ _ _ [(0, str a), (1, str b), (2, str c), (18, .bool (decide (¬ (a.length ≤ 80 ∧ b.length ≤ 80) ∨ 20 < c.length)))] ([]) []
  first | refine c_dec rfl (fun h18 => ?_) (fun h18 => ?_) | refine c_cond rfl (fun h18 => ?_) (fun h18 => ?_)
  · skip
    refine c_seq ?_
    refine c_reg ?_
    refine l_q (by decide) (p_assign rfl).q ?_
    refine l_nil ?_
    refine c_ret ?_
    refine c_ret1 rfl rfl (fun w hs => ?_)
    exact ⟨rfl, hs.ext⟩
  · skip
    refine c_skip ?_
    refine c_seq ?_
    refine c_reg ?_
    refine l_q (by decide) (p_move rfl).q ?_
    refine l_q (by decide) (p_move rfl).q ?_
    refine l_q (by decide) (q_call call_12 rfl (fun w hs => distance_ok a b (by omega) (by omega) w)) ?_
    refine l_q (by decide) (p_assign rfl).q ?_
    refine l_nil ?_
    refine c_seq ?_
    refine c_reg ?_
    refine l_q (by decide) (p_move rfl).q ?_
    refine l_q (by decide) (p_move rfl).q ?_
    first | refine l_q (by decide) (p_cat rfl rfl (by omega)).q ?_ | refine l_q (by decide) (p_cat rfl rfl (by simp; omega)).q ?_
    refine l_q (by decide) (p_move rfl).q ?_
    refine l_q (by decide) (p_move rfl).q ?_
    first | refine l_q (by decide) (p_cat rfl rfl (by omega)).q ?_ | refine l_q (by decide) (p_cat rfl rfl (by simp; omega)).q ?_
    refine l_q (by decide) (q_call call_12 rfl (fun w hs => distance_ok (c ++ a) (c ++ b) (by rw [List.length_append]; omega) (by rw [List.length_append]; omega) w)) ?_
    refine l_q (by decide) (p_move rfl).q ?_
    first | refine l_q (by decide) (((p_eql rfl rfl rfl rfl)).to (u := .bool true) (by rw [decide_eq_true (Td.D_pre c a b)])).q ?_ | refine l_q (by decide) (((p_eqli rfl rfl)).to (u := .bool true) (by rw [decide_eq_true (Td.D_pre c a b)])).q ?_
    refine l_q (by decide) (p_move rfl).q ?_
    refine l_g (j := 9) rfl rfl (by decide) (p_move rfl).q ?_
    refine l_g (j := 9) rfl rfl (by decide) (p_move rfl).q ?_
    first | refine l_g (j := 9) rfl rfl (by decide) (p_cat rfl rfl (by omega)).q ?_ | refine l_g (j := 9) rfl rfl (by decide) (p_cat rfl rfl (by simp; omega)).q ?_
    refine l_g (j := 9) rfl rfl (by decide) (p_move rfl).q ?_
    refine l_g (j := 9) rfl rfl (by decide) (p_move rfl).q ?_
    first | refine l_g (j := 9) rfl rfl (by decide) (p_cat rfl rfl (by omega)).q ?_ | refine l_g (j := 9) rfl rfl (by decide) (p_cat rfl rfl (by simp; omega)).q ?_
    refine l_g (j := 9) rfl rfl (by decide) (q_call call_12 rfl (fun w hs => distance_ok (a ++ c) (b ++ c) (by rw [List.length_append]; omega) (by rw [List.length_append]; omega) w)) ?_
    refine l_g (j := 9) rfl rfl (by decide) (p_move rfl).q ?_
    first | refine l_g (j := 9) rfl rfl (by decide) (((p_eql rfl rfl rfl rfl)).to (u := .bool true) (by rw [decide_eq_true (Td.D_suf c a b)])).q ?_ | refine l_g (j := 9) rfl rfl (by decide) (((p_eqli rfl rfl)).to (u := .bool true) (by rw [decide_eq_true (Td.D_suf c a b)])).q ?_
    refine l_q (by decide) (p_pick rfl rfl).q ?_
    refine l_q (by decide) (p_assign rfl).q ?_
    refine l_nil ?_
    refine c_ret ?_
    refine c_ret1 rfl rfl (fun w hs => ?_)
    exact ⟨rfl, hs.ext⟩

theorem diff_law (a b : List UInt8) (w : World) :
    Calls Try.prog 6 #[str a, str b] w (Ret fun v w' => v = .bool true ∧ Ext [] w w') := by
  refine calls_fx (l := [str a, str b]) Try.func6 rfl Try.ntmps6 (Nat.le_of_ble_eq_true rfl) (St.start w) ?_
  refine c_seq ?_
  refine c_reg ?_
  refine l_q (by decide) (p_assign rfl).q ?_
  refine l_nil ?_
  refine c_seq ?_
  refine c_seq ?_
  refine c_reg ?_
  refine l_q (by decide) (q_call call_10 rfl (fun w hs => awake_ok w)) ?_
  refine l_q (by decide) (p_not rfl).q ?_
  refine l_nil ?_
  refine c_false rfl ?_
  refine c_skip ?_
  refine c_seq ?_
  refine c_reg ?_
  refine l_q (by decide) (p_move rfl).q ?_
  refine l_q (by decide) (p_move rfl).q ?_
  refine l_q (by decide) (q_call call_11 rfl (fun w hs => few_ok a b w)) ?_
  first | refine l_q (by decide) (p_notd rfl).q ?_ | refine l_q (by decide) (p_not rfl).q ?_
  refine l_q (by decide) (p_move rfl).q ?_
  first | refine l_splitd (t := 11) rfl (fun h11 => ?_) (fun h11 => ?_) | refine l_splitb (t := 11) rfl (fun h11 => ?_) (fun h11 => ?_)
  · skip
    refine l_off (j := 4) rfl rfl (by first | (simp; done) | (simp [undef]; done)) (by decide) ?_
    refine l_off (j := 4) rfl rfl (by first | (simp; done) | (simp [undef]; done)) (by decide) ?_
    refine l_off (j := 4) rfl rfl (by first | (simp; done) | (simp [undef]; done)) (by decide) ?_
    refine l_off (j := 4) rfl rfl (by first | (simp; done) | (simp [undef]; done)) (by decide) ?_
    refine l_off (j := 4) rfl rfl (by first | (simp; done) | (simp [undef]; done)) (by decide) ?_
    refine l_off (j := 4) rfl rfl (by first | (simp; done) | (simp [undef]; done)) (by decide) ?_
    refine l_off (j := 4) rfl rfl (by first | (simp; done) | (simp [undef]; done)) (by decide) ?_
    refine l_q (by decide) (p_pick rfl rfl).q ?_
    refine l_q (by decide) (p_assign rfl).q ?_
    refine l_nil ?_
    refine c_ret ?_
    refine c_ret1 rfl rfl (fun w hs => ?_)
    exact ⟨rfl, hs.ext⟩
  · skip
    have hf := Classical.not_not.1 h11
    refine l_g (j := 4) rfl rfl (by decide) (p_move rfl).q ?_
    refine l_g (j := 4) rfl rfl (by decide) (p_move rfl).q ?_
    refine l_strip (j := 4) rfl rfl ?_
    refine l_call (X := Option Addr × Nat) (fun x => .slice x.1 (Td.diff a b).length x.2) (fun x => Sl 3 edF x.1 (Td.diff a b)) (by decide) call_15 rfl (fun w hs => diff_ok a b (by omega) (by omega) w) (fun x14 => ?_)
    refine l_g (j := 4) rfl rfl (by decide) (p_move rfl).q ?_
    refine l_g (j := 4) rfl rfl (by decide) (p_move rfl).q ?_
    refine l_strip (j := 4) rfl rfl ?_
    refine l_call (X := Option Addr × Nat) (fun x => .slice x.1 (Td.diff a b).length x.2) (fun x => Sl 3 edF x.1 (Td.diff a b)) (by decide) call_16 rfl (fun w hs => diff2_ok a b (by omega) (by omega) w) (fun x17 => ?_)
    refine l_g (j := 4) rfl rfl (by decide) (q_call call_14 rfl (fun w hs => same_true x14.1 x17.1 x14.2 x17.2 (Td.diff a b) (Td.diff a b) rfl (by have := diff_short a b; omega) w (hs.facts _ (by repeat (first | exact List.Mem.head _ | apply List.Mem.tail))).1 (hs.facts _ (by repeat (first | exact List.Mem.head _ | apply List.Mem.tail))).1)) ?_
    refine l_q (by decide) (p_pick rfl rfl).q ?_
    refine l_q (by decide) (p_assign rfl).q ?_
    refine l_nil ?_
    refine c_ret ?_
    refine c_ret1 rfl rfl (fun w hs => ?_)
    exact ⟨rfl, hs.ext⟩

theorem trans_law (a b : List UInt8) (w : World) :
    Calls Try.prog 7 #[str a, str b] w (Ret fun v w' => v = .bool true ∧ Ext [] w w') := by
  refine calls_fx (l := [str a, str b]) Try.func7 rfl Try.ntmps7 (Nat.le_of_ble_eq_true rfl) (St.start w) ?_
  refine c_seq ?_
  refine c_reg ?_
  refine l_q (by decide) (p_assign rfl).q ?_
  refine l_nil ?_
  refine c_seq ?_
  refine c_seq ?_
  refine c_reg ?_
  refine l_q (by decide) (q_call call_10 rfl (fun w hs => awake_ok w)) ?_
  refine l_q (by decide) (p_not rfl).q ?_
  refine l_nil ?_
  refine c_false rfl ?_
  refine c_skip ?_
  refine c_seq ?_
  refine c_seq ?_
  refine c_reg ?_
  refine l_q (by decide) (p_move rfl).q ?_
  refine l_q (by decide) (p_move rfl).q ?_
  refine l_q (by decide) (q_call call_11 rfl (fun w hs => few_ok a b w)) ?_
  first | refine l_q (by decide) (p_notd rfl).q ?_ | refine l_q (by decide) (p_not rfl).q ?_
  refine l_nil ?_
  first | refine c_dec rfl (fun h15 => ?_) (fun h15 => ?_) | refine c_cond rfl (fun h15 => ?_) (fun h15 => ?_)
  · skip
    refine c_seq ?_
    refine c_reg ?_
    refine l_q (by decide) (p_assign rfl).q ?_
    refine l_nil ?_
    refine c_ret ?_
    refine c_ret1 rfl rfl (fun w hs => ?_)
    exact ⟨rfl, hs.ext⟩
  · skip
    have hf : a.length ≤ 80 ∧ b.length ≤ 80 := by simpa using h15
    have hds := diff_short a b
    have hdz := Td.diff_size a b
    have hdl := Td.D_le_sum a b
    refine c_skip ?_
    refine c_seq ?_
    refine c_reg ?_
    refine l_q (by decide) (p_move rfl).q ?_
    refine l_q (by decide) (p_move rfl).q ?_
    refine l_call (X := Option Addr × Nat) (fun x => .slice x.1 (Td.diff a b).length x.2) (fun x => Sl 3 edF x.1 (Td.diff a b)) (by decide) call_15 rfl (fun w hs => diff_ok a b (by omega) (by omega) w) (fun x18 => ?_)
    refine l_q (by decide) (p_assign rfl).q ?_
    refine l_nil ?_
    refine c_seq ?_
    refine c_reg ?_
    refine l_q (by decide) (p_assign (v := .int .i64 ((0 : Nat) : Int)) rfl).q ?_
    refine l_nil ?_
    refine c_seq ?_
    refine c_seq ?_
    refine c_reg ?_
    refine l_q (by decide) (p_assign (v := .int .i64 ((0 : Nat) : Int)) rfl).q ?_
    refine l_nil ?_
    refine c_block ?_
    refine c_loop (S := Nat) (fun zs => zs ≤ (Td.diff a b).length) (fun zs => (Td.diff a b).length - zs) (fun zs => [(0, str a), (1, str b), (5, .slice x18.1 (Td.diff a b).length x18.2), (6, .int .i64 (Td.size ((Td.diff a b).take zs) : Int)), (7, .int .i64 (zs : Int))]) (fun zs => []) (fun zs => [Sl 3 edF x18.1 (Td.diff a b)]) (0) ?_ ?_ ?_ ?_ ?_
    · show (0) ≤ (Td.diff a b).length
      exact Nat.zero_le _
    · exact ⟨rfl, rfl, rfl, rfl, rfl, trivial⟩
    · exact .refl _
    · exact fun _ h => h
    rintro k hinv
    have hinv : k ≤ (Td.diff a b).length := hinv
    have hk := hinv
    show Cont _ _ _ _ [(0, str a), (1, str b), (5, .slice x18.1 (Td.diff a b).length x18.2), (6, .int .i64 (Td.size ((Td.diff a b).take k) : Int)), (7, .int .i64 (k : Int))] ([]) [Sl 3 edF x18.1 (Td.diff a b)]
    refine c_seq ?_
    refine c_seq ?_
    refine c_reg ?_
    refine l_q (by decide) (p_move rfl).q ?_
    refine l_q (by decide) (p_move rfl).q ?_
    refine l_q (by decide) (p_len_sl Try.underlying27 rfl).q ?_
    first | refine l_q (by decide) (p_lss rfl rfl rfl rfl).q ?_ | refine l_q (by decide) (p_lssi rfl rfl).q ?_
    refine l_nil ?_
    first | refine c_dec rfl (fun h22 => ?_) (fun h22 => ?_) | refine c_cond rfl (fun h22 => ?_) (fun h22 => ?_)
    · skip
      obtain ⟨e, he⟩ : ∃ e, (Td.diff a b)[k]? = some e := ⟨_, List.getElem?_eq_getElem (by omega)⟩
      have hst := size_take _ k e he
      have hat := tog_at a _ 0 b (Td.diff_tog a b) k e he
      have hsl := size_take_le (Td.diff a b) (k + 1)
      refine c_skip ?_
      refine c_seq ?_
      refine c_block ?_
      refine c_seq ?_
      refine c_draw mixed (by decide +kernel) ?_
      refine q_q (by decide) (p_move rfl).q ?_
      refine q_q (by decide) (p_move rfl).q ?_
      refine q_q (by decide) (p_move rfl).q ?_
      first | refine q_q (by decide) (r_index Try.underlying27 inf_30 rfl rfl rfl (by first | exact .fact (by repeat (first | exact List.Mem.head _ | apply List.Mem.tail)) | exact .own (by repeat (first | exact List.Mem.head _ | apply List.Mem.tail)) (by decide) (fun _ => rfl)) rfl (by omega)).q ?_ | refine q_q (by decide) (r_index Try.underlying27 inf_30 rfl rfl rfl (by first | exact .fact (by repeat (first | exact List.Mem.head _ | apply List.Mem.tail)) | exact .own (by repeat (first | exact List.Mem.head _ | apply List.Mem.tail)) (by decide) (fun _ => rfl)) rfl (by decide)).q ?_ | refine q_q (by decide) (p_indexo Try.underlying27 inf_30 rfl rfl rfl (by omega)).q ?_
      first | refine q_q (by decide) (p_faddr (i := 1) 1 Try.underlying30 rfl inf_3 (by decide) rfl rfl).q ?_ | refine q_q (by decide) (p_faddro (i := 1) 1 Try.underlying30 rfl inf_3 (by decide) rfl rfl).q ?_
      first | refine q_q (by decide) (r_loado Try.underlying3 rfl rfl (by repeat (first | exact List.Mem.head _ | apply List.Mem.tail)) (by rfl)).q ?_ | refine q_q (by decide) (r_load1 Try.underlying3 rfl rfl (by first | exact .fact (by repeat (first | exact List.Mem.head _ | apply List.Mem.tail)) | exact .own (by repeat (first | exact List.Mem.head _ | apply List.Mem.tail)) (by decide) (fun _ => rfl)) (by first | assumption | rfl) (by rfl)).q ?_ | refine q_q (by decide) (r_loadf Try.underlying3 rfl rfl (by first | exact .fact (by repeat (first | exact List.Mem.head _ | apply List.Mem.tail)) | exact .own (by repeat (first | exact List.Mem.head _ | apply List.Mem.tail)) (by decide) (fun _ => rfl)) (by assumption) (by rfl)).q ?_
      first | refine q_q (by decide) (p_add rfl rfl rfl rfl (by show _ ≤ (9223372036854775807 : Nat); omega)).q ?_ | refine q_q (by decide) (p_addi rfl rfl (by show (-9223372036854775808 : Int) ≤ _; omega) (by show _ ≤ ((9223372036854775807 : Nat) : Int); omega)).q ?_
      refine q_q (by decide) (p_move rfl).q ?_
      refine q_q (by decide) (p_move rfl).q ?_
      first | refine q_q (by decide) (r_index Try.underlying27 inf_30 rfl rfl rfl (by first | exact .fact (by repeat (first | exact List.Mem.head _ | apply List.Mem.tail)) | exact .own (by repeat (first | exact List.Mem.head _ | apply List.Mem.tail)) (by decide) (fun _ => rfl)) rfl (by omega)).q ?_ | refine q_q (by decide) (r_index Try.underlying27 inf_30 rfl rfl rfl (by first | exact .fact (by repeat (first | exact List.Mem.head _ | apply List.Mem.tail)) | exact .own (by repeat (first | exact List.Mem.head _ | apply List.Mem.tail)) (by decide) (fun _ => rfl)) rfl (by decide)).q ?_ | refine q_q (by decide) (p_indexo Try.underlying27 inf_30 rfl rfl rfl (by omega)).q ?_
      first | refine q_q (by decide) (p_faddr (i := 2) 2 Try.underlying30 rfl inf_9 (by decide) rfl rfl).q ?_ | refine q_q (by decide) (p_faddro (i := 2) 2 Try.underlying30 rfl inf_9 (by decide) rfl rfl).q ?_
      first | refine q_q (by decide) (r_loado Try.underlying9 rfl rfl (by repeat (first | exact List.Mem.head _ | apply List.Mem.tail)) (by rfl)).q ?_ | refine q_q (by decide) (r_load1 Try.underlying9 rfl rfl (by first | exact .fact (by repeat (first | exact List.Mem.head _ | apply List.Mem.tail)) | exact .own (by repeat (first | exact List.Mem.head _ | apply List.Mem.tail)) (by decide) (fun _ => rfl)) (by first | assumption | rfl) (by rfl)).q ?_ | refine q_q (by decide) (r_loadf Try.underlying9 rfl rfl (by first | exact .fact (by repeat (first | exact List.Mem.head _ | apply List.Mem.tail)) | exact .own (by repeat (first | exact List.Mem.head _ | apply List.Mem.tail)) (by decide) (fun _ => rfl)) (by assumption) (by rfl)).q ?_
      refine q_q (by decide) (p_len_str Try.underlying9 rfl).q ?_
      first | refine q_q (by decide) (p_add rfl rfl rfl rfl (by show _ ≤ (9223372036854775807 : Nat); omega)).q ?_ | refine q_q (by decide) (p_addi rfl rfl (by show (-9223372036854775808 : Int) ≤ _; omega) (by show _ ≤ ((9223372036854775807 : Nat) : Int); omega)).q ?_
      refine q_q (by decide) (p_assign rfl).q ?_
      refine q_nil ?_
      refine c_seq ?_
      refine c_meetn (S := Unit) (fun zs => True) (fun zs => [(0, str a), (1, str b), (5, .slice x18.1 (Td.diff a b).length x18.2), (6, .int .i64 ((Td.size ((Td.diff a b).take k) + e.del + e.ins.length : Nat) : Int)), (7, .int .i64 (k : Int)), (61, .bool (decide ((0 : Nat) = 1)))]) (fun zs => []) (fun zs => [Sl 3 edF x18.1 (Td.diff a b)]) ?_ ?_
      · skip
        refine c_draw mixed (by decide +kernel) ?_
        refine q_q (by decide) (p_move rfl).q ?_
        first | refine q_q (by decide) (p_gtr (j := 0) rfl rfl rfl rfl).q ?_ | refine q_q (by decide) (p_gtri rfl rfl).q ?_
        refine q_q (by decide) (p_move rfl).q ?_
        first | refine q_splitd (t := 41) rfl (fun h41 => ?_) (fun h41 => ?_) | refine q_splitb (t := 41) rfl (fun h41 => ?_) (fun h41 => ?_)
        · skip
          obtain ⟨k, rfl⟩ : ∃ k2, k = k2 + 1 := ⟨k - 1, by omega⟩
          obtain ⟨e0, he0⟩ : ∃ e, (Td.diff a b)[k]? = some e := ⟨_, List.getElem?_eq_getElem (by omega)⟩
          have hse := sep_at _ _ k e0 e (Td.diff_sep a b) he0 he
          have hst0 := size_take _ k e0 he0
          refine q_g (j := 2) rfl rfl (by decide) (p_move rfl).q ?_
          refine q_g (j := 2) rfl rfl (by decide) (p_move rfl).q ?_
          first | refine q_g (j := 2) rfl rfl (by decide) (r_index Try.underlying27 inf_30 rfl rfl rfl (by first | exact .fact (by repeat (first | exact List.Mem.head _ | apply List.Mem.tail)) | exact .own (by repeat (first | exact List.Mem.head _ | apply List.Mem.tail)) (by decide) (fun _ => rfl)) rfl (by omega)).q ?_ | refine q_g (j := 2) rfl rfl (by decide) (r_index Try.underlying27 inf_30 rfl rfl rfl (by first | exact .fact (by repeat (first | exact List.Mem.head _ | apply List.Mem.tail)) | exact .own (by repeat (first | exact List.Mem.head _ | apply List.Mem.tail)) (by decide) (fun _ => rfl)) rfl (by decide)).q ?_ | refine q_g (j := 2) rfl rfl (by decide) (p_indexo Try.underlying27 inf_30 rfl rfl rfl (by omega)).q ?_
          first | refine q_g (j := 2) rfl rfl (by decide) (p_faddr (i := 0) 0 Try.underlying30 rfl inf_3 (by decide) rfl rfl).q ?_ | refine q_g (j := 2) rfl rfl (by decide) (p_faddro (i := 0) 0 Try.underlying30 rfl inf_3 (by decide) rfl rfl).q ?_
          first | refine q_g (j := 2) rfl rfl (by decide) (r_loado Try.underlying3 rfl rfl (by repeat (first | exact List.Mem.head _ | apply List.Mem.tail)) (by rfl)).q ?_ | refine q_g (j := 2) rfl rfl (by decide) (r_load1 Try.underlying3 rfl rfl (by first | exact .fact (by repeat (first | exact List.Mem.head _ | apply List.Mem.tail)) | exact .own (by repeat (first | exact List.Mem.head _ | apply List.Mem.tail)) (by decide) (fun _ => rfl)) (by first | assumption | rfl) (by rfl)).q ?_ | refine q_g (j := 2) rfl rfl (by decide) (r_loadf Try.underlying3 rfl rfl (by first | exact .fact (by repeat (first | exact List.Mem.head _ | apply List.Mem.tail)) | exact .own (by repeat (first | exact List.Mem.head _ | apply List.Mem.tail)) (by decide) (fun _ => rfl)) (by assumption) (by rfl)).q ?_
          refine q_g (j := 2) rfl rfl (by decide) (p_move rfl).q ?_
          refine q_g (j := 2) rfl rfl (by decide) (p_move rfl).q ?_
          first | refine q_g (j := 2) rfl rfl (by decide) (p_sub (j := 1) rfl rfl rfl rfl (by omega) (by show _ ≤ (9223372036854775807 : Nat); omega)).q ?_ | refine q_g (j := 2) rfl rfl (by decide) (p_subi rfl rfl (by show (-9223372036854775808 : Int) ≤ _; omega) (by show _ ≤ ((9223372036854775807 : Nat) : Int); omega)).q ?_
          first | refine q_g (j := 2) rfl rfl (by decide) (r_index Try.underlying27 inf_30 rfl rfl rfl (by first | exact .fact (by repeat (first | exact List.Mem.head _ | apply List.Mem.tail)) | exact .own (by repeat (first | exact List.Mem.head _ | apply List.Mem.tail)) (by decide) (fun _ => rfl)) rfl (by omega)).q ?_ | refine q_g (j := 2) rfl rfl (by decide) (r_index Try.underlying27 inf_30 rfl rfl rfl (by first | exact .fact (by repeat (first | exact List.Mem.head _ | apply List.Mem.tail)) | exact .own (by repeat (first | exact List.Mem.head _ | apply List.Mem.tail)) (by decide) (fun _ => rfl)) rfl (by decide)).q ?_ | refine q_g (j := 2) rfl rfl (by decide) (p_indexo Try.underlying27 inf_30 rfl rfl rfl (by omega)).q ?_
          first | refine q_g (j := 2) rfl rfl (by decide) (p_faddr (i := 0) 0 Try.underlying30 rfl inf_3 (by decide) rfl rfl).q ?_ | refine q_g (j := 2) rfl rfl (by decide) (p_faddro (i := 0) 0 Try.underlying30 rfl inf_3 (by decide) rfl rfl).q ?_
          first | refine q_g (j := 2) rfl rfl (by decide) (r_loado Try.underlying3 rfl rfl (by repeat (first | exact List.Mem.head _ | apply List.Mem.tail)) (by rfl)).q ?_ | refine q_g (j := 2) rfl rfl (by decide) (r_load1 Try.underlying3 rfl rfl (by first | exact .fact (by repeat (first | exact List.Mem.head _ | apply List.Mem.tail)) | exact .own (by repeat (first | exact List.Mem.head _ | apply List.Mem.tail)) (by decide) (fun _ => rfl)) (by first | assumption | rfl) (by rfl)).q ?_ | refine q_g (j := 2) rfl rfl (by decide) (r_loadf Try.underlying3 rfl rfl (by first | exact .fact (by repeat (first | exact List.Mem.head _ | apply List.Mem.tail)) | exact .own (by repeat (first | exact List.Mem.head _ | apply List.Mem.tail)) (by decide) (fun _ => rfl)) (by assumption) (by rfl)).q ?_
          refine q_g (j := 2) rfl rfl (by decide) (p_move rfl).q ?_
          refine q_g (j := 2) rfl rfl (by decide) (p_move rfl).q ?_
          first | refine q_g (j := 2) rfl rfl (by decide) (p_sub (j := 1) rfl rfl rfl rfl (by omega) (by show _ ≤ (9223372036854775807 : Nat); omega)).q ?_ | refine q_g (j := 2) rfl rfl (by decide) (p_subi rfl rfl (by show (-9223372036854775808 : Int) ≤ _; omega) (by show _ ≤ ((9223372036854775807 : Nat) : Int); omega)).q ?_
          first | refine q_g (j := 2) rfl rfl (by decide) (r_index Try.underlying27 inf_30 rfl rfl rfl (by first | exact .fact (by repeat (first | exact List.Mem.head _ | apply List.Mem.tail)) | exact .own (by repeat (first | exact List.Mem.head _ | apply List.Mem.tail)) (by decide) (fun _ => rfl)) rfl (by omega)).q ?_ | refine q_g (j := 2) rfl rfl (by decide) (r_index Try.underlying27 inf_30 rfl rfl rfl (by first | exact .fact (by repeat (first | exact List.Mem.head _ | apply List.Mem.tail)) | exact .own (by repeat (first | exact List.Mem.head _ | apply List.Mem.tail)) (by decide) (fun _ => rfl)) rfl (by decide)).q ?_ | refine q_g (j := 2) rfl rfl (by decide) (p_indexo Try.underlying27 inf_30 rfl rfl rfl (by omega)).q ?_
          first | refine q_g (j := 2) rfl rfl (by decide) (p_faddr (i := 1) 1 Try.underlying30 rfl inf_3 (by decide) rfl rfl).q ?_ | refine q_g (j := 2) rfl rfl (by decide) (p_faddro (i := 1) 1 Try.underlying30 rfl inf_3 (by decide) rfl rfl).q ?_
          first | refine q_g (j := 2) rfl rfl (by decide) (r_loado Try.underlying3 rfl rfl (by repeat (first | exact List.Mem.head _ | apply List.Mem.tail)) (by rfl)).q ?_ | refine q_g (j := 2) rfl rfl (by decide) (r_load1 Try.underlying3 rfl rfl (by first | exact .fact (by repeat (first | exact List.Mem.head _ | apply List.Mem.tail)) | exact .own (by repeat (first | exact List.Mem.head _ | apply List.Mem.tail)) (by decide) (fun _ => rfl)) (by first | assumption | rfl) (by rfl)).q ?_ | refine q_g (j := 2) rfl rfl (by decide) (r_loadf Try.underlying3 rfl rfl (by first | exact .fact (by repeat (first | exact List.Mem.head _ | apply List.Mem.tail)) | exact .own (by repeat (first | exact List.Mem.head _ | apply List.Mem.tail)) (by decide) (fun _ => rfl)) (by assumption) (by rfl)).q ?_
          first | refine q_g (j := 2) rfl rfl (by decide) (p_add rfl rfl rfl rfl (by show _ ≤ (9223372036854775807 : Nat); omega)).q ?_ | refine q_g (j := 2) rfl rfl (by decide) (p_addi rfl rfl (by show (-9223372036854775808 : Int) ≤ _; omega) (by show _ ≤ ((9223372036854775807 : Nat) : Int); omega)).q ?_
          first | refine q_g (j := 2) rfl rfl (by decide) (p_leq rfl rfl rfl rfl).q ?_ | refine q_g (j := 2) rfl rfl (by decide) (p_leqi rfl rfl).q ?_
          refine q_q (by decide) (p_pick rfl rfl).q ?_
          refine q_nil ?_
          refine c_join (()) ?inv ?sub ?perm ?facts
          case sub => exact ⟨rfl, rfl, rfl, rfl, rfl, (by first | rfl | exact congrArg (fun b => some (Value.bool b)) (decide_eq_true (by omega)).symm | exact congrArg (fun b => some (Value.bool b)) (decide_eq_false (by omega)).symm | exact congrArg (fun b => some (Value.bool b)) (decide_eq_decide.2 (by omega))), trivial⟩
          case perm =>
            exact .refl _
          case facts => exact fun _ h => h
          case inv =>
            trivial
        · skip
          refine q_off (j := 2) rfl rfl (by first | (simp; done) | (simp [undef]; done)) (by decide) ?_
          refine q_off (j := 2) rfl rfl (by first | (simp; done) | (simp [undef]; done)) (by decide) ?_
          refine q_off (j := 2) rfl rfl (by first | (simp; done) | (simp [undef]; done)) (by decide) ?_
          refine q_off (j := 2) rfl rfl (by first | (simp; done) | (simp [undef]; done)) (by decide) ?_
          refine q_off (j := 2) rfl rfl (by first | (simp; done) | (simp [undef]; done)) (by decide) ?_
          refine q_off (j := 2) rfl rfl (by first | (simp; done) | (simp [undef]; done)) (by decide) ?_
          refine q_off (j := 2) rfl rfl (by first | (simp; done) | (simp [undef]; done)) (by decide) ?_
          refine q_off (j := 2) rfl rfl (by first | (simp; done) | (simp [undef]; done)) (by decide) ?_
          refine q_off (j := 2) rfl rfl (by first | (simp; done) | (simp [undef]; done)) (by decide) ?_
          refine q_off (j := 2) rfl rfl (by first | (simp; done) | (simp [undef]; done)) (by decide) ?_
          refine q_off (j := 2) rfl rfl (by first | (simp; done) | (simp [undef]; done)) (by decide) ?_
          refine q_off (j := 2) rfl rfl (by first | (simp; done) | (simp [undef]; done)) (by decide) ?_
          refine q_off (j := 2) rfl rfl (by first | (simp; done) | (simp [undef]; done)) (by decide) ?_
          refine q_off (j := 2) rfl rfl (by first | (simp; done) | (simp [undef]; done)) (by decide) ?_
          refine q_off (j := 2) rfl rfl (by first | (simp; done) | (simp [undef]; done)) (by decide) ?_
          refine q_off (j := 2) rfl rfl (by first | (simp; done) | (simp [undef]; done)) (by decide) ?_
          refine q_off (j := 2) rfl rfl (by first | (simp; done) | (simp [undef]; done)) (by decide) ?_
          refine q_off (j := 2) rfl rfl (by first | (simp; done) | (simp [undef]; done)) (by decide) ?_
          refine q_off (j := 2) rfl rfl (by first | (simp; done) | (simp [undef]; done)) (by decide) ?_
          refine q_q (by decide) (p_pick rfl rfl).q ?_
          refine q_nil ?_
          refine c_join (()) ?inv ?sub ?perm ?facts
          case sub => exact ⟨rfl, rfl, rfl, rfl, rfl, (by first | rfl | exact congrArg (fun b => some (Value.bool b)) (decide_eq_true (by omega)).symm | exact congrArg (fun b => some (Value.bool b)) (decide_eq_false (by omega)).symm | exact congrArg (fun b => some (Value.bool b)) (decide_eq_decide.2 (by omega))), trivial⟩
          case perm =>
            exact .refl _
          case facts => exact fun _ h => h
          case inv =>
            trivial
      rintro uu hmeet
      show Cont _ _ _ _ [(0, str a), (1, str b), (5, .slice x18.1 (Td.diff a b).length x18.2), (6, .int .i64 ((Td.size ((Td.diff a b).take k) + e.del + e.ins.length : Nat) : Int)), (7, .int .i64 (k : Int)), (61, .bool (decide ((0 : Nat) = 1)))] ([]) [Sl 3 edF x18.1 (Td.diff a b)]
      first | refine c_dec rfl (fun h61 => ?_) (fun h61 => ?_) | refine c_cond rfl (fun h61 => ?_) (fun h61 => ?_)
      · skip
        refine c_seq ?_
        refine c_reg ?_
        refine l_q (by decide) (p_assign rfl).q ?_
        refine l_nil ?_
        refine c_ret ?_
        refine c_ret1 rfl rfl (fun w hs => ?_)
        exact absurd h61 (by omega)
      · skip
        refine c_skip ?_
        refine c_reg ?_
        refine l_q (by decide) (p_move rfl).q ?_
        first | refine l_q (by decide) (p_add (j := 1) rfl rfl rfl rfl (by show _ ≤ (9223372036854775807 : Nat); omega)).q ?_ | refine l_q (by decide) (p_addi rfl rfl (by show (-9223372036854775808 : Int) ≤ _; omega) (by show _ ≤ ((9223372036854775807 : Nat) : Int); omega)).q ?_
        refine l_q (by decide) (p_assign rfl).q ?_
        refine l_nil ?_
        refine c_join ((k + 1)) ?_ ?_ ?_ ?_
        · show ((k + 1) ≤ (Td.diff a b).length) ∧ (Td.diff a b).length - (k + 1) < (Td.diff a b).length - k
          exact ⟨by omega, by omega⟩
        · exact ⟨rfl, rfl, rfl, by show some _ = some _; congr 2 <;> omega, rfl, trivial⟩
        · show List.Perm _ ([])
          exact .refl _
        · exact fun _ h => h
    · skip
      have hs6 : Td.size ((Td.diff a b).take k) = Td.D a b := by rw [List.take_of_length_le (by omega), hdz]
      refine c_exit ?_
      refine c_here ?_
      refine c_seq ?_
      refine c_reg ?_
      refine l_q (by decide) (p_move rfl).q ?_
      refine l_q (by decide) (p_move rfl).q ?_
      refine l_q (by decide) (q_call call_17 rfl (fun w hs => together_ok a x18.1 x18.2 (Td.diff a b) b (by omega) (by omega) (by omega) (Td.diff_tog a b) w (hs.facts _ (by repeat (first | exact List.Mem.head _ | apply List.Mem.tail))).1)) ?_
      refine l_q (by decide) (p_move rfl).q ?_
      refine l_q (by decide) (p_extract rfl rfl).q ?_
      refine l_q (by decide) (p_extract rfl rfl).q ?_
      refine l_q (by decide) (p_assign rfl).q ?_
      refine l_q (by decide) (p_assign rfl).q ?_
      refine l_nil ?_
      refine c_seq ?_
      refine c_reg ?_
      refine l_q (by decide) (p_move rfl).q ?_
      refine l_q (by decide) (p_move rfl).q ?_
      refine l_g (j := 1) rfl rfl (by decide) (p_move rfl).q ?_
      refine l_g (j := 1) rfl rfl (by decide) (p_move rfl).q ?_
      refine l_g (j := 1) rfl rfl (by decide) (((p_eqs rfl rfl)).to (u := .bool true) (by rw [decide_eq_true rfl])).q ?_
      refine l_q (by decide) (p_pick rfl rfl).q ?_
      refine l_q (by decide) (p_move rfl).q ?_
      refine l_g (j := 6) rfl rfl (by decide) (p_move rfl).q ?_
      refine l_g (j := 6) rfl rfl (by decide) (p_move rfl).q ?_
      refine l_g (j := 6) rfl rfl (by decide) (p_move rfl).q ?_
      refine l_g (j := 6) rfl rfl (by decide) (q_call call_12 rfl (fun w hs => distance_ok a b (by omega) (by omega) w)) ?_
      first | refine l_g (j := 6) rfl rfl (by decide) (((p_eql rfl rfl rfl rfl)).to (u := .bool true) (by rw [decide_eq_true (by omega)])).q ?_ | refine l_g (j := 6) rfl rfl (by decide) (((p_eqli rfl rfl)).to (u := .bool true) (by rw [decide_eq_true (by omega)])).q ?_
      refine l_q (by decide) (p_pick rfl rfl).q ?_
      refine l_q (by decide) (p_assign rfl).q ?_
      refine l_nil ?_
      refine c_ret ?_
      refine c_ret1 rfl rfl (fun w hs => ?_)
      exact ⟨rfl, hs.ext⟩
end Go.Proofs.Ytnkmemoagimddaa
