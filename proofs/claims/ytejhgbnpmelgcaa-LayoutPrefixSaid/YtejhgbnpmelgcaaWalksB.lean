/- The walks of the off-side rule, second part; conditions: lengths. -/
import Derived.Test.YtejhgbnpmelgcaaWalks
namespace Go.Proofs.Ytejhgbnpmelgcaa
open Go Go.Fx Go.Proofs

theorem move_in {defs n : Int} {e : Lay.T} (h : e.kind = defs + 1) : Lay.move defs n e = n + 1 := by unfold Lay.move; rw [if_pos h]
theorem move_out {defs n : Int} {e : Lay.T} (h : e.kind = defs + 2) : Lay.move defs n e = n - 1 := by unfold Lay.move; rw [if_neg (by omega), if_pos h]
theorem move_no {defs n : Int} {e : Lay.T} (h : ¬ e.kind = defs + 1) (h2 : ¬ e.kind = defs + 2) : Lay.move defs n e = n := by unfold Lay.move; rw [if_neg h, if_neg h2]
theorem plain_step {defs : Int} {l : List Lay.T} {k : Nat} {e : Lay.T} (h : l[k]? = some e) (hp : Lay.plainB defs (l.take k) = true) (he : e.kind < defs) : Lay.plainB defs (l.take (k + 1)) = true := by
  rw [take_at h]; unfold Lay.plainB at *; rw [List.all_append, hp]; simp [he]
theorem plain_no {defs : Int} {l : List Lay.T} {k : Nat} {e : Lay.T} (h : l[k]? = some e) (he : ¬ e.kind < defs) : Lay.plainB defs l = false := by
  unfold Lay.plainB; rw [List.all_eq_false]; exact ⟨e, List.mem_of_getElem? h, by simp; omega⟩
theorem inf_22 : InfoIs Try.prog 22 1 24 (.slice none 0 0) := by unfold InfoIs; kernel_rfl
theorem pl_33 : PlacesIs Try.prog 33 [(0, 1), (1, 1), (2, 1), (3, 1)] := ⟨_, Try.underlying33, by kernel_rfl⟩
theorem balref_ok (A : Option Addr) (c : Nat) (l : List Lay.T) (defs : Int) (hd1 : -1000 ≤ defs) (hd2 : defs ≤ 1000) (hl : l.length < 1000000) (hk : ∀ t, t ∈ l → -9223372036854775808 ≤ t.kind ∧ t.kind ≤ 9223372036854775807) (w : World) (hq : Sl 4 tokF A l w) :
    Calls Try.prog 16 #[.slice A l.length c, .int .i64 defs] w (Ret fun v w' => v = .bool (Lay.bal defs 0 l) ∧ Ext [] w w') := by
  refine calls_fx (l := [.slice A l.length c, .int .i64 defs]) Try.func16 rfl Try.ntmps16 (Nat.le_of_ble_eq_true rfl) ((St.start w).old hq (dep_sl (by decide) hq)) ?_
  refine c_seq ?_
  refine c_reg ?_
  refine l_q (by decide) (p_assign rfl).q ?_
  refine l_nil ?_
  refine c_seq ?_
  refine c_reg ?_
  refine l_q (by decide) (p_assign (v := .int .i64 ((0 : Nat) : Int)) rfl).q ?_
  refine l_nil ?_
  refine c_seq ?_
  refine c_seq ?_
  refine c_reg ?_
  refine l_q (by decide) (p_assign (v := .int .i64 ((0 : Nat) : Int)) rfl).q ?_
  refine l_nil ?_
  refine c_block ?_
  refine c_loop (S := Nat × Int) (fun zs => zs.1 ≤ l.length ∧ 0 ≤ zs.2 ∧ zs.2 ≤ zs.1 ∧ Lay.bal defs 0 l = Lay.bal defs zs.2 (l.drop zs.1)) (fun zs => l.length - zs.1) (fun zs => [(0, .slice A l.length c), (1, .int .i64 defs), (5, .int .i64 zs.2), (6, .int .i64 (zs.1 : Int))]) (fun zs => []) (fun zs => [Sl 4 tokF A l]) (0, 0) ?_ ?_ ?_ ?_ ?_
  · show (0) ≤ l.length ∧ 0 ≤ (0) ∧ (0) ≤ (0) ∧ Lay.bal defs 0 l = Lay.bal defs (0) (l.drop (0))
    exact ⟨Nat.zero_le _, Int.le_refl _, Int.le_refl _, rfl⟩
  · exact ⟨rfl, rfl, rfl, rfl, trivial⟩
  · exact .refl _
  · simp
  rintro ⟨k, n⟩ hinv
  have hinv : k ≤ l.length ∧ 0 ≤ n ∧ n ≤ k ∧ Lay.bal defs 0 l = Lay.bal defs n (l.drop k) := hinv
  obtain ⟨hkl, hn0, hnk, he⟩ := hinv
  show Cont _ _ _ _ [(0, .slice A l.length c), (1, .int .i64 defs), (5, .int .i64 n), (6, .int .i64 (k : Int))] ([]) [Sl 4 tokF A l]
  refine c_seq ?_
  refine c_seq ?_
  refine c_reg ?_
  refine l_q (by decide) (p_move rfl).q ?_
  refine l_q (by decide) (p_move rfl).q ?_
  refine l_q (by decide) (p_len_sl Try.underlying22 rfl).q ?_
  first | refine l_q (by decide) (p_lss rfl rfl rfl rfl).q ?_ | refine l_q (by decide) (p_lssi rfl rfl).q ?_
  refine l_nil ?_
  first | refine c_dec rfl (fun h10 => ?_) (fun h10 => ?_) | refine c_cond rfl (fun h10 => ?_) (fun h10 => ?_)
  · skip
    obtain ⟨u, hu⟩ := at_some (l := l) (n := k) (by omega)
    have huk := hk u (List.mem_of_getElem? hu)
    have hb := bal_at (defs := defs) hu n
    refine c_skip ?_
    refine c_seq ?_
    refine c_block ?_
    refine c_seq ?_
    refine c_reg ?_
    refine l_q (by decide) (p_move rfl).q ?_
    refine l_q (by decide) (p_move rfl).q ?_
    first | refine l_q (by decide) (r_index Try.underlying22 inf_33 rfl rfl rfl (by first | exact .fact (by repeat (first | exact List.Mem.head _ | apply List.Mem.tail)) | exact .own (by repeat (first | exact List.Mem.head _ | apply List.Mem.tail)) (by decide) (fun _ => rfl)) rfl (by omega)).q ?_ | refine l_q (by decide) (r_index Try.underlying22 inf_33 rfl rfl rfl (by first | exact .fact (by repeat (first | exact List.Mem.head _ | apply List.Mem.tail)) | exact .own (by repeat (first | exact List.Mem.head _ | apply List.Mem.tail)) (by decide) (fun _ => rfl)) rfl (by decide)).q ?_ | refine l_q (by decide) (p_indexo Try.underlying22 inf_33 rfl rfl rfl (by omega)).q ?_
    first | refine l_q (by decide) (p_faddr (i := 0) 0 Try.underlying33 rfl inf_3 (by decide) rfl rfl).q ?_ | refine l_q (by decide) (p_faddro (i := 0) 0 Try.underlying33 rfl inf_3 (by decide) rfl rfl).q ?_
    first | refine l_q (by decide) (r_loado Try.underlying3 rfl rfl (by repeat (first | exact List.Mem.head _ | apply List.Mem.tail)) (by rfl)).q ?_ | refine l_q (by decide) (r_load1 Try.underlying3 rfl rfl (by first | exact .fact (by repeat (first | exact List.Mem.head _ | apply List.Mem.tail)) | exact .own (by repeat (first | exact List.Mem.head _ | apply List.Mem.tail)) (by decide) (fun _ => rfl)) (by first | assumption | rfl) (by rfl)).q ?_ | refine l_q (by decide) (r_loadf Try.underlying3 rfl rfl (by first | exact .fact (by repeat (first | exact List.Mem.head _ | apply List.Mem.tail)) | exact .own (by repeat (first | exact List.Mem.head _ | apply List.Mem.tail)) (by decide) (fun _ => rfl)) (by assumption) (by rfl)).q ?_
    refine l_q (by decide) (p_move rfl).q ?_
    refine l_q (by decide) (p_subw rfl rfl).q ?_
    refine l_nil ?_
    refine c_block ?_
    refine c_seq ?_
    refine c_reg ?_
    first | refine l_q (by decide) (p_eql (j := 1) rfl rfl rfl rfl).q ?_ | refine l_q (by decide) (p_eqli rfl rfl).q ?_
    refine l_q (by decide) (p_assign rfl).q ?_
    refine l_nil ?_
    first | refine c_dec rfl (fun h20 => ?_) (fun h20 => ?_) | refine c_cond rfl (fun h20 => ?_) (fun h20 => ?_)
    · skip
      refine c_reg ?_
      refine l_q (by decide) (p_move rfl).q ?_
      first | refine l_q (by decide) (p_add (j := 1) rfl rfl rfl rfl (by show _ ≤ (9223372036854775807 : Nat); omega)).q ?_ | refine l_q (by decide) (p_addi rfl rfl (by show (-9223372036854775808 : Int) ≤ _; omega) (by show _ ≤ ((9223372036854775807 : Nat) : Int); omega)).q ?_
      refine l_q (by decide) (p_assign rfl).q ?_
      refine l_nil ?_
      refine c_reg ?_
      refine l_q (by decide) (p_move rfl).q ?_
      first | refine l_q (by decide) (p_add (j := 1) rfl rfl rfl rfl (by show _ ≤ (9223372036854775807 : Nat); omega)).q ?_ | refine l_q (by decide) (p_addi rfl rfl (by show (-9223372036854775808 : Int) ≤ _; omega) (by show _ ≤ ((9223372036854775807 : Nat) : Int); omega)).q ?_
      refine l_q (by decide) (p_assign rfl).q ?_
      refine l_nil ?_
      refine c_join ((k + 1), (n + 1)) ?_ ?_ ?_ ?_
      · show ((k + 1) ≤ l.length ∧ 0 ≤ (n + 1) ∧ (n + 1) ≤ (k + 1) ∧ Lay.bal defs 0 l = Lay.bal defs (n + 1) (l.drop (k + 1))) ∧ l.length - (k + 1) < l.length - k
        have h21 := (wrap_small huk.1 huk.2 hd1 hd2 (by decide) (by decide)).1 h20
        rw [move_in h21, if_neg (by omega)] at hb
        exact ⟨⟨by omega, by omega, by omega, by rw [he, hb]⟩, by omega⟩
      · exact ⟨rfl, rfl, rfl, rfl, trivial⟩
      · show List.Perm _ ([])
        exact .refl _
      · exact fun _ h => h
    · skip
      refine c_seq ?_
      refine c_reg ?_
      first | refine l_q (by decide) (p_eql (j := 2) rfl rfl rfl rfl).q ?_ | refine l_q (by decide) (p_eqli rfl rfl).q ?_
      refine l_q (by decide) (p_assign rfl).q ?_
      refine l_nil ?_
      first | refine c_dec rfl (fun h24 => ?_) (fun h24 => ?_) | refine c_cond rfl (fun h24 => ?_) (fun h24 => ?_)
      · skip
        refine c_seq ?_
        refine c_reg ?_
        refine l_q (by decide) (p_move rfl).q ?_
        first | refine l_q (by decide) (p_sub (j := 1) rfl rfl rfl rfl (by omega) (by show _ ≤ (9223372036854775807 : Nat); omega)).q ?_ | refine l_q (by decide) (p_subi rfl rfl (by show (-9223372036854775808 : Int) ≤ _; omega) (by show _ ≤ ((9223372036854775807 : Nat) : Int); omega)).q ?_
        refine l_q (by decide) (p_assign rfl).q ?_
        refine l_nil ?_
        refine c_seq ?_
        refine c_reg ?_
        refine l_q (by decide) (p_move rfl).q ?_
        first | refine l_q (by decide) (p_lss (j := 0) rfl rfl rfl rfl).q ?_ | refine l_q (by decide) (p_lssi rfl rfl).q ?_
        refine l_nil ?_
        first | refine c_dec rfl (fun h29 => ?_) (fun h29 => ?_) | refine c_cond rfl (fun h29 => ?_) (fun h29 => ?_)
        · skip
          refine c_seq ?_
          refine c_reg ?_
          refine l_q (by decide) (p_assign rfl).q ?_
          refine l_nil ?_
          refine c_ret ?_
          refine c_ret1 rfl rfl (fun w hs => ?_)
          have h25 := (wrap_small huk.1 huk.2 hd1 hd2 (by decide) (by decide)).1 h24
          rw [move_out h25, if_pos (by omega)] at hb
          exact ⟨by rw [he, hb], hs.ext⟩
        · skip
          refine c_skip ?_
          refine c_reg ?_
          refine l_q (by decide) (p_move rfl).q ?_
          first | refine l_q (by decide) (p_add (j := 1) rfl rfl rfl rfl (by show _ ≤ (9223372036854775807 : Nat); omega)).q ?_ | refine l_q (by decide) (p_addi rfl rfl (by show (-9223372036854775808 : Int) ≤ _; omega) (by show _ ≤ ((9223372036854775807 : Nat) : Int); omega)).q ?_
          refine l_q (by decide) (p_assign rfl).q ?_
          refine l_nil ?_
          refine c_join ((k + 1), (n - 1)) ?_ ?_ ?_ ?_
          · show ((k + 1) ≤ l.length ∧ 0 ≤ (n - 1) ∧ (n - 1) ≤ (k + 1) ∧ Lay.bal defs 0 l = Lay.bal defs (n - 1) (l.drop (k + 1))) ∧ l.length - (k + 1) < l.length - k
            have h25 := (wrap_small huk.1 huk.2 hd1 hd2 (by decide) (by decide)).1 h24
            rw [move_out h25, if_neg (by omega)] at hb
            exact ⟨⟨by omega, by omega, by omega, by rw [he, hb]⟩, by omega⟩
          · exact ⟨rfl, rfl, rfl, rfl, trivial⟩
          · show List.Perm _ ([])
            exact .refl _
          · exact fun _ h => h
      · skip
        refine c_skip ?_
        refine c_reg ?_
        refine l_q (by decide) (p_move rfl).q ?_
        first | refine l_q (by decide) (p_add (j := 1) rfl rfl rfl rfl (by show _ ≤ (9223372036854775807 : Nat); omega)).q ?_ | refine l_q (by decide) (p_addi rfl rfl (by show (-9223372036854775808 : Int) ≤ _; omega) (by show _ ≤ ((9223372036854775807 : Nat) : Int); omega)).q ?_
        refine l_q (by decide) (p_assign rfl).q ?_
        refine l_nil ?_
        refine c_join ((k + 1), (n)) ?_ ?_ ?_ ?_
        · show ((k + 1) ≤ l.length ∧ 0 ≤ (n) ∧ (n) ≤ (k + 1) ∧ Lay.bal defs 0 l = Lay.bal defs (n) (l.drop (k + 1))) ∧ l.length - (k + 1) < l.length - k
          have h21 := fun e => h20 ((wrap_small huk.1 huk.2 hd1 hd2 (by decide) (by decide)).2 e)
          have h25 := fun e => h24 ((wrap_small huk.1 huk.2 hd1 hd2 (by decide) (by decide)).2 e)
          rw [move_no h21 h25, if_neg (by omega)] at hb
          exact ⟨⟨by omega, by omega, by omega, by rw [he, hb]⟩, by omega⟩
        · exact ⟨rfl, rfl, rfl, rfl, trivial⟩
        · show List.Perm _ ([])
          exact .refl _
        · exact fun _ h => h
  · skip
    refine c_exit ?_
    refine c_here ?_
    refine c_seq ?_
    refine c_reg ?_
    refine l_q (by decide) (p_move rfl).q ?_
    first | refine l_q (by decide) (p_eql (j := 0) rfl rfl rfl rfl).q ?_ | refine l_q (by decide) (p_eqli rfl rfl).q ?_
    refine l_q (by decide) (p_assign rfl).q ?_
    refine l_nil ?_
    refine c_ret ?_
    refine c_ret1 rfl rfl (fun w hs => ?_)
    exact ⟨by rw [he, List.drop_of_length_le (by omega)]; rfl, hs.ext⟩

theorem bal_ok (A : Option Addr) (c : Nat) (l : List Lay.T) (defs : Int) (hd1 : -1000 ≤ defs) (hd2 : defs ≤ 1000) (hl : l.length < 1000000) (hk : ∀ t, t ∈ l → -9223372036854775808 ≤ t.kind ∧ t.kind ≤ 9223372036854775807) (w : World) (hq : Sl 4 tokF A l w) :
    Calls Try.prog 17 #[.slice A l.length c, .int .i64 defs] w (Ret fun v w' => v = .bool (Lay.bal defs 0 l) ∧ Ext [] w w') := by
  refine calls_fx (l := [.slice A l.length c, .int .i64 defs]) Try.func17 rfl Try.ntmps17 (Nat.le_of_ble_eq_true rfl) ((St.start w).old hq (dep_sl (by decide) hq)) ?_
  refine c_seq ?_
  refine c_reg ?_
  refine l_q (by decide) (p_assign rfl).q ?_
  refine l_nil ?_
  refine c_seq ?_
  refine c_reg ?_
  refine l_q (by decide) (p_assign (v := .int .i64 ((0 : Nat) : Int)) rfl).q ?_
  refine l_nil ?_
  refine c_seq ?_
  refine c_seq ?_
  refine c_reg ?_
  refine l_q (by decide) (p_move rfl).q ?_
  refine l_q (by decide) (p_len_sl Try.underlying22 rfl).q ?_
  refine l_q (by decide) (p_move (v := .int .i64 ((0 : Nat) : Int)) rfl).q ?_
  refine l_nil ?_
  refine c_block ?_
  refine c_loop (S := Nat × Int) (fun zs => zs.1 ≤ l.length ∧ 0 ≤ zs.2 ∧ zs.2 ≤ zs.1 ∧ Lay.bal defs 0 l = Lay.bal defs zs.2 (l.drop zs.1)) (fun zs => l.length - zs.1) (fun zs => [(1, .int .i64 defs), (5, .int .i64 zs.2), (8, .slice A l.length c), (9, .int .i64 (l.length : Int)), (10, .int .i64 (zs.1 : Int))]) (fun zs => []) (fun zs => [Sl 4 tokF A l]) (0, 0) ?_ ?_ ?_ ?_ ?_
  · show (0) ≤ l.length ∧ 0 ≤ (0) ∧ (0) ≤ (0) ∧ Lay.bal defs 0 l = Lay.bal defs (0) (l.drop (0))
    exact ⟨Nat.zero_le _, Int.le_refl _, Int.le_refl _, rfl⟩
  · exact ⟨rfl, rfl, rfl, rfl, rfl, trivial⟩
  · exact .refl _
  · simp
  rintro ⟨k, n⟩ hinv
  have hinv : k ≤ l.length ∧ 0 ≤ n ∧ n ≤ k ∧ Lay.bal defs 0 l = Lay.bal defs n (l.drop k) := hinv
  obtain ⟨hkl, hn0, hnk, he⟩ := hinv
  show Cont _ _ _ _ [(1, .int .i64 defs), (5, .int .i64 n), (8, .slice A l.length c), (9, .int .i64 (l.length : Int)), (10, .int .i64 (k : Int))] ([]) [Sl 4 tokF A l]
  refine c_seq ?_
  refine c_reg ?_
  first | refine l_q (by decide) (p_lss rfl rfl rfl rfl).q ?_ | refine l_q (by decide) (p_lssi rfl rfl).q ?_
  refine l_nil ?_
  refine c_seq ?_
  first | refine c_dec rfl (fun h11 => ?_) (fun h11 => ?_) | refine c_cond rfl (fun h11 => ?_) (fun h11 => ?_)
  · skip
    obtain ⟨u, hu⟩ := at_some (l := l) (n := k) (by omega)
    have huk := hk u (List.mem_of_getElem? hu)
    have hb := bal_at (defs := defs) hu n
    refine c_skip ?_
    refine c_seq ?_
    refine c_block ?_
    refine c_seq ?_
    refine c_reg ?_
    first | refine l_q (by decide) (r_index Try.underlying22 inf_33 rfl rfl rfl (by first | exact .fact (by repeat (first | exact List.Mem.head _ | apply List.Mem.tail)) | exact .own (by repeat (first | exact List.Mem.head _ | apply List.Mem.tail)) (by decide) (fun _ => rfl)) rfl (by omega)).q ?_ | refine l_q (by decide) (r_index Try.underlying22 inf_33 rfl rfl rfl (by first | exact .fact (by repeat (first | exact List.Mem.head _ | apply List.Mem.tail)) | exact .own (by repeat (first | exact List.Mem.head _ | apply List.Mem.tail)) (by decide) (fun _ => rfl)) rfl (by decide)).q ?_ | refine l_q (by decide) (p_indexo Try.underlying22 inf_33 rfl rfl rfl (by omega)).q ?_
    first | refine l_q (by decide) (r_loada Try.underlying33 rfl inf_33 rfl (by first | exact .fact (by repeat (first | exact List.Mem.head _ | apply List.Mem.tail)) | exact .own (by repeat (first | exact List.Mem.head _ | apply List.Mem.tail)) (by decide) (fun _ => rfl)) (by assumption)).q ?_ | refine l_q (by decide) (r_loadow Try.underlying33 rfl inf_33 rfl (by repeat (first | exact List.Mem.head _ | apply List.Mem.tail)) (by rfl)).q ?_ | refine l_q (by decide) (r_loadoa Try.underlying33 rfl inf_33 rfl (by repeat (first | exact List.Mem.head _ | apply List.Mem.tail)) (by rfl) (fun j u h => h)).q ?_
    refine l_alloc (by decide) inf_33 _ rfl (fun b7 => ?_)
    first | (refine l_storew inf_33 rfl rfl rfl rfl rfl ?_) | (refine l_perm (front1 _ _ _) ?_; refine l_storew inf_33 rfl rfl rfl rfl rfl ?_) | (refine l_perm (front2 _ _ _ _) ?_; refine l_storew inf_33 rfl rfl rfl rfl rfl ?_) | (refine l_perm (front3 _ _ _ _ _) ?_; refine l_storew inf_33 rfl rfl rfl rfl rfl ?_) | (refine l_perm (front4 _ _ _ _ _ _) ?_; refine l_storew inf_33 rfl rfl rfl rfl rfl ?_) | (refine l_storea inf_33 rfl rfl rfl rfl (by decide) ?_) | (refine l_perm (front1 _ _ _) ?_; refine l_storea inf_33 rfl rfl rfl rfl (by decide) ?_) | (refine l_perm (front2 _ _ _ _) ?_; refine l_storea inf_33 rfl rfl rfl rfl (by decide) ?_)
    refine l_nil ?_
    refine c_seq ?_
    refine c_seq ?_
    refine c_reg ?_
    first | refine l_q (by decide) (p_faddr (i := 0) 0 Try.underlying33 rfl inf_3 (by decide) rfl rfl).q ?_ | refine l_q (by decide) (p_faddro (i := 0) 0 Try.underlying33 rfl inf_3 (by decide) rfl rfl).q ?_
    first | refine l_q (by decide) (r_loado Try.underlying3 rfl rfl (by repeat (first | exact List.Mem.head _ | apply List.Mem.tail)) (by rfl)).q ?_ | refine l_q (by decide) (r_load1 Try.underlying3 rfl rfl (by first | exact .fact (by repeat (first | exact List.Mem.head _ | apply List.Mem.tail)) | exact .own (by repeat (first | exact List.Mem.head _ | apply List.Mem.tail)) (by decide) (fun _ => rfl)) (by first | assumption | rfl) (by rfl)).q ?_ | refine l_q (by decide) (r_loadf Try.underlying3 rfl rfl (by first | exact .fact (by repeat (first | exact List.Mem.head _ | apply List.Mem.tail)) | exact .own (by repeat (first | exact List.Mem.head _ | apply List.Mem.tail)) (by decide) (fun _ => rfl)) (by assumption) (by rfl)).q ?_
    refine l_nil ?_
    refine c_meetn (S := Unit) (fun zs => Lay.move defs n u ≤ n + 1 ∧ n - 1 ≤ Lay.move defs n u) (fun zs => [(1, .int .i64 defs), (5, .int .i64 (Lay.move defs n u)), (8, .slice A l.length c), (9, .int .i64 (l.length : Int)), (10, .int .i64 (k : Int))]) (fun zs => [iCells b7 33 (tokF u)]) (fun zs => [Sl 4 tokF A l]) ?_ ?_
    · skip
      refine c_block ?_
      refine c_seq ?_
      refine c_reg ?_
      refine l_q (by decide) (p_move rfl).q ?_
      first | refine l_q (by decide) (p_add (j := 1) rfl rfl rfl rfl (by show _ ≤ (9223372036854775807 : Nat); omega)).q ?_ | refine l_q (by decide) (p_addi rfl rfl (by show (-9223372036854775808 : Int) ≤ _; omega) (by show _ ≤ ((9223372036854775807 : Nat) : Int); omega)).q ?_
      first | refine l_q (by decide) (p_eql rfl rfl rfl rfl).q ?_ | refine l_q (by decide) (p_eqli rfl rfl).q ?_
      refine l_q (by decide) (p_assign rfl).q ?_
      refine l_nil ?_
      first | refine c_dec rfl (fun h16 => ?_) (fun h16 => ?_) | refine c_cond rfl (fun h16 => ?_) (fun h16 => ?_)
      · skip
        refine c_reg ?_
        refine l_q (by decide) (p_move rfl).q ?_
        first | refine l_q (by decide) (p_add (j := 1) rfl rfl rfl rfl (by show _ ≤ (9223372036854775807 : Nat); omega)).q ?_ | refine l_q (by decide) (p_addi rfl rfl (by show (-9223372036854775808 : Int) ≤ _; omega) (by show _ ≤ ((9223372036854775807 : Nat) : Int); omega)).q ?_
        refine l_q (by decide) (p_assign rfl).q ?_
        refine l_nil ?_
        have hmv := move_in (n := n) h16
        rw [← hmv]
        refine c_join (()) ?inv ?sub ?perm ?facts
        case sub => exact ⟨rfl, rfl, rfl, rfl, rfl, trivial⟩
        case perm =>
          exact .refl _
        case facts => exact fun _ h => h
        case inv =>
          rw [hmv]; omega
      · skip
        refine c_seq ?_
        refine c_reg ?_
        refine l_q (by decide) (p_move rfl).q ?_
        first | refine l_q (by decide) (p_add (j := 2) rfl rfl rfl rfl (by show _ ≤ (9223372036854775807 : Nat); omega)).q ?_ | refine l_q (by decide) (p_addi rfl rfl (by show (-9223372036854775808 : Int) ≤ _; omega) (by show _ ≤ ((9223372036854775807 : Nat) : Int); omega)).q ?_
        first | refine l_q (by decide) (p_eql rfl rfl rfl rfl).q ?_ | refine l_q (by decide) (p_eqli rfl rfl).q ?_
        refine l_q (by decide) (p_assign rfl).q ?_
        refine l_nil ?_
        first | refine c_dec rfl (fun h22 => ?_) (fun h22 => ?_) | refine c_cond rfl (fun h22 => ?_) (fun h22 => ?_)
        · skip
          refine c_reg ?_
          refine l_q (by decide) (p_move rfl).q ?_
          first | refine l_q (by decide) (p_sub (j := 1) rfl rfl rfl rfl (by omega) (by show _ ≤ (9223372036854775807 : Nat); omega)).q ?_ | refine l_q (by decide) (p_subi rfl rfl (by show (-9223372036854775808 : Int) ≤ _; omega) (by show _ ≤ ((9223372036854775807 : Nat) : Int); omega)).q ?_
          refine l_q (by decide) (p_assign rfl).q ?_
          refine l_nil ?_
          have hmv := move_out (n := n) h22
          rw [← hmv]
          refine c_join (()) ?inv ?sub ?perm ?facts
          case sub => exact ⟨rfl, rfl, rfl, rfl, rfl, trivial⟩
          case perm =>
            exact .refl _
          case facts => exact fun _ h => h
          case inv =>
            rw [hmv]; omega
        · skip
          refine c_skip ?_
          have hmv := move_no (n := n) h16 h22
          rw [show (5, Value.int IntKind.i64 n) = (5, Value.int IntKind.i64 (Lay.move defs n u)) by rw [hmv]]
          refine c_join (()) ?inv ?sub ?perm ?facts
          case sub => exact ⟨rfl, rfl, rfl, rfl, rfl, trivial⟩
          case perm =>
            exact .refl _
          case facts => exact fun _ h => h
          case inv =>
            rw [hmv]; omega
    rintro uu hmeet
    have hmeet : Lay.move defs n u ≤ n + 1 ∧ n - 1 ≤ Lay.move defs n u := hmeet
    obtain ⟨hm1, hm2⟩ := hmeet
    show Cont _ _ _ _ [(1, .int .i64 defs), (5, .int .i64 (Lay.move defs n u)), (8, .slice A l.length c), (9, .int .i64 (l.length : Int)), (10, .int .i64 (k : Int))] ([iCells b7 33 (tokF u)]) [Sl 4 tokF A l]
    refine c_seq ?_
    refine c_reg ?_
    refine l_q (by decide) (p_move rfl).q ?_
    first | refine l_q (by decide) (p_lss (j := 0) rfl rfl rfl rfl).q ?_ | refine l_q (by decide) (p_lssi rfl rfl).q ?_
    refine l_nil ?_
    first | refine c_dec rfl (fun h29 => ?_) (fun h29 => ?_) | refine c_cond rfl (fun h29 => ?_) (fun h29 => ?_)
    · skip
      refine c_seq ?_
      refine c_reg ?_
      refine l_q (by decide) (p_assign rfl).q ?_
      refine l_nil ?_
      refine c_ret ?_
      refine c_ret1 rfl rfl (fun w hs => ?_)
      rw [if_pos (by omega)] at hb
      exact ⟨by rw [he, hb], hs.ext⟩
    · skip
      refine c_skip ?_
      refine c_reg ?_
      first | refine l_q (by decide) (p_add (j := 1) rfl rfl rfl rfl (by show _ ≤ (9223372036854775807 : Nat); omega)).q ?_ | refine l_q (by decide) (p_addi rfl rfl (by show (-9223372036854775808 : Int) ≤ _; omega) (by show _ ≤ ((9223372036854775807 : Nat) : Int); omega)).q ?_
      refine l_q (by decide) (p_move rfl).q ?_
      refine l_nil ?_
      first | (refine c_drop (x := iCells b7 _ _) ?_) | (refine c_perm (front1 _ _ _) ?_; refine c_drop (x := iCells b7 _ _) ?_) | (refine c_perm (front2 _ _ _ _) ?_; refine c_drop (x := iCells b7 _ _) ?_) | (refine c_perm (front3 _ _ _ _ _) ?_; refine c_drop (x := iCells b7 _ _) ?_) | (refine c_perm (front4 _ _ _ _ _ _) ?_; refine c_drop (x := iCells b7 _ _) ?_)
      refine c_join ((k + 1), (Lay.move defs n u)) ?_ ?_ ?_ ?_
      · show ((k + 1) ≤ l.length ∧ 0 ≤ (Lay.move defs n u) ∧ (Lay.move defs n u) ≤ (k + 1) ∧ Lay.bal defs 0 l = Lay.bal defs (Lay.move defs n u) (l.drop (k + 1))) ∧ l.length - (k + 1) < l.length - k
        rw [if_neg (by omega)] at hb
        exact ⟨⟨by omega, by omega, by omega, by rw [he, hb]⟩, by omega⟩
      · exact ⟨rfl, rfl, rfl, rfl, rfl, trivial⟩
      · show List.Perm _ ([])
        exact .refl _
      · exact fun _ h => h
  · skip
    refine c_exit ?_
    refine c_here ?_
    refine c_seq ?_
    refine c_reg ?_
    refine l_q (by decide) (p_move rfl).q ?_
    first | refine l_q (by decide) (p_eql (j := 0) rfl rfl rfl rfl).q ?_ | refine l_q (by decide) (p_eqli rfl rfl).q ?_
    refine l_q (by decide) (p_assign rfl).q ?_
    refine l_nil ?_
    refine c_ret ?_
    refine c_ret1 rfl rfl (fun w hs => ?_)
    exact ⟨by rw [he, List.drop_of_length_le (by omega)]; rfl, hs.ext⟩

theorem fair_ok (A : Option Addr) (c : Nat) (l : List Lay.T) (s : List UInt8) (defs : Int) (hl : l.length ≤ 140737488351232) (hsl : s.length ≤ 140737488351232) (w : World) (hq : Sl 4 tokF A l w) :
    Calls Try.prog 11 #[.slice A l.length c, str s, .int .i64 defs] w (Ret fun v w' => v = .bool (Lay.fairB l s defs) ∧ Ext [] w w') := by
  refine calls_fx (l := [.slice A l.length c, str s, .int .i64 defs]) Try.func11 rfl Try.ntmps11 (Nat.le_of_ble_eq_true rfl) ((St.start w).old hq (dep_sl (by decide) hq)) ?_
  refine c_seq ?_
  refine c_reg ?_
  refine l_q (by decide) (p_assign rfl).q ?_
  refine l_nil ?_
  refine c_seq ?_
  refine c_seq ?_
  refine c_meetn (S := Unit) (fun zs => True) (fun zs => [(0, .slice A l.length c), (1, str s), (24, .bool (decide (60 < l.length ∨ 300 < s.length ∨ defs < 0 ∨ 1000 < defs)))]) (fun zs => []) (fun zs => [Sl 4 tokF A l]) ?_ ?_
  · skip
    refine c_reg ?_
    refine l_q (by decide) (p_move rfl).q ?_
    refine l_q (by decide) (p_len_sl Try.underlying22 rfl).q ?_
    first | refine l_q (by decide) (p_gtr (j := 60) rfl rfl rfl rfl).q ?_ | refine l_q (by decide) (p_gtri rfl rfl).q ?_
    refine l_q (by decide) (p_move rfl).q ?_
    first | refine l_splitd (t := 12) rfl (fun h12 => ?_) (fun h12 => ?_) | refine l_splitb (t := 12) rfl (fun h12 => ?_) (fun h12 => ?_)
    · skip
      refine l_off (j := 3) rfl rfl (by first | (simp; done) | (simp [undef]; done)) (by decide) ?_
      refine l_off (j := 3) rfl rfl (by first | (simp; done) | (simp [undef]; done)) (by decide) ?_
      refine l_off (j := 3) rfl rfl (by first | (simp; done) | (simp [undef]; done)) (by decide) ?_
      refine l_q (by decide) (p_pick rfl rfl).q ?_
      refine l_q (by decide) (p_move rfl).q ?_
      refine l_off (j := 8) rfl rfl (by first | (simp; done) | (simp [undef]; done)) (by decide) ?_
      refine l_off (j := 8) rfl rfl (by first | (simp; done) | (simp [undef]; done)) (by decide) ?_
      refine l_q (by decide) (p_pick rfl rfl).q ?_
      refine l_q (by decide) (p_move rfl).q ?_
      refine l_off (j := 12) rfl rfl (by first | (simp; done) | (simp [undef]; done)) (by decide) ?_
      refine l_off (j := 12) rfl rfl (by first | (simp; done) | (simp [undef]; done)) (by decide) ?_
      refine l_q (by decide) (p_pick rfl rfl).q ?_
      refine l_nil ?_
      refine c_join (()) ?inv ?sub ?perm ?facts
      case sub => exact ⟨rfl, rfl, (by first | rfl | exact congrArg (fun b => some (Value.bool b)) (decide_eq_true (by omega)).symm | exact congrArg (fun b => some (Value.bool b)) (decide_eq_false (by omega)).symm | exact congrArg (fun b => some (Value.bool b)) (decide_eq_decide.2 (by omega))), trivial⟩
      case perm =>
        exact .refl _
      case facts => exact fun _ h => h
      case inv =>
        trivial
    · skip
      refine l_g (j := 3) rfl rfl (by decide) (p_move rfl).q ?_
      refine l_g (j := 3) rfl rfl (by decide) (p_len_str Try.underlying9 rfl).q ?_
      first | refine l_g (j := 3) rfl rfl (by decide) (p_gtr (j := 300) rfl rfl rfl rfl).q ?_ | refine l_g (j := 3) rfl rfl (by decide) (p_gtri rfl rfl).q ?_
      refine l_q (by decide) (p_pick rfl rfl).q ?_
      refine l_q (by decide) (p_move rfl).q ?_
      first | refine l_splitd (t := 17) rfl (fun h17 => ?_) (fun h17 => ?_) | refine l_splitb (t := 17) rfl (fun h17 => ?_) (fun h17 => ?_)
      · skip
        refine l_off (j := 8) rfl rfl (by first | (simp; done) | (simp [undef]; done)) (by decide) ?_
        refine l_off (j := 8) rfl rfl (by first | (simp; done) | (simp [undef]; done)) (by decide) ?_
        refine l_q (by decide) (p_pick rfl rfl).q ?_
        refine l_q (by decide) (p_move rfl).q ?_
        refine l_off (j := 12) rfl rfl (by first | (simp; done) | (simp [undef]; done)) (by decide) ?_
        refine l_off (j := 12) rfl rfl (by first | (simp; done) | (simp [undef]; done)) (by decide) ?_
        refine l_q (by decide) (p_pick rfl rfl).q ?_
        refine l_nil ?_
        refine c_join (()) ?inv ?sub ?perm ?facts
        case sub => exact ⟨rfl, rfl, (by first | rfl | exact congrArg (fun b => some (Value.bool b)) (decide_eq_true (by omega)).symm | exact congrArg (fun b => some (Value.bool b)) (decide_eq_false (by omega)).symm | exact congrArg (fun b => some (Value.bool b)) (decide_eq_decide.2 (by omega))), trivial⟩
        case perm =>
          exact .refl _
        case facts => exact fun _ h => h
        case inv =>
          trivial
      · skip
        refine l_g (j := 8) rfl rfl (by decide) (p_move rfl).q ?_
        first | refine l_g (j := 8) rfl rfl (by decide) (p_lss (j := 0) rfl rfl rfl rfl).q ?_ | refine l_g (j := 8) rfl rfl (by decide) (p_lssi rfl rfl).q ?_
        refine l_q (by decide) (p_pick rfl rfl).q ?_
        refine l_q (by decide) (p_move rfl).q ?_
        first | refine l_splitd (t := 21) rfl (fun h21 => ?_) (fun h21 => ?_) | refine l_splitb (t := 21) rfl (fun h21 => ?_) (fun h21 => ?_)
        · skip
          refine l_off (j := 12) rfl rfl (by first | (simp; done) | (simp [undef]; done)) (by decide) ?_
          refine l_off (j := 12) rfl rfl (by first | (simp; done) | (simp [undef]; done)) (by decide) ?_
          refine l_q (by decide) (p_pick rfl rfl).q ?_
          refine l_nil ?_
          refine c_join (()) ?inv ?sub ?perm ?facts
          case sub => exact ⟨rfl, rfl, (by first | rfl | exact congrArg (fun b => some (Value.bool b)) (decide_eq_true (by omega)).symm | exact congrArg (fun b => some (Value.bool b)) (decide_eq_false (by omega)).symm | exact congrArg (fun b => some (Value.bool b)) (decide_eq_decide.2 (by omega))), trivial⟩
          case perm =>
            exact .refl _
          case facts => exact fun _ h => h
          case inv =>
            trivial
        · skip
          refine l_g (j := 12) rfl rfl (by decide) (p_move rfl).q ?_
          first | refine l_g (j := 12) rfl rfl (by decide) (p_gtr (j := 1000) rfl rfl rfl rfl).q ?_ | refine l_g (j := 12) rfl rfl (by decide) (p_gtri rfl rfl).q ?_
          refine l_q (by decide) (p_pick rfl rfl).q ?_
          refine l_nil ?_
          refine c_join (()) ?inv ?sub ?perm ?facts
          case sub => exact ⟨rfl, rfl, (by first | rfl | exact congrArg (fun b => some (Value.bool b)) (decide_eq_true (by omega)).symm | exact congrArg (fun b => some (Value.bool b)) (decide_eq_false (by omega)).symm | exact congrArg (fun b => some (Value.bool b)) (decide_eq_decide.2 (by omega))), trivial⟩
          case perm =>
            exact .refl _
          case facts => exact fun _ h => h
          case inv =>
            trivial
  rintro uu hmeet
  show Cont _ _ _ _ [(0, .slice A l.length c), (1, str s), (24, .bool (decide (60 < l.length ∨ 300 < s.length ∨ defs < 0 ∨ 1000 < defs)))] ([]) [Sl 4 tokF A l]
  first | refine c_dec rfl (fun h24 => ?_) (fun h24 => ?_) | refine c_cond rfl (fun h24 => ?_) (fun h24 => ?_)
  · skip
    refine c_seq ?_
    refine c_reg ?_
    refine l_q (by decide) (p_assign rfl).q ?_
    refine l_nil ?_
    refine c_ret ?_
    refine c_ret1 rfl rfl (fun w hs => ?_)
    exact ⟨by unfold Lay.fairB; rw [if_pos h24], hs.ext⟩
  · skip
    refine c_skip ?_
    refine c_seq ?_
    refine c_reg ?_
    refine l_q (by decide) (p_assign (v := .int .i64 ((0 : Nat) : Int)) rfl).q ?_
    refine l_nil ?_
    refine c_seq ?_
    refine c_seq ?_
    refine c_reg ?_
    refine l_q (by decide) (p_assign (v := .int .i64 ((0 : Nat) : Int)) rfl).q ?_
    refine l_nil ?_
    refine c_block ?_
    refine c_loop (S := Nat × Int) (fun zs => zs.1 ≤ l.length ∧ Lay.fair s.length 0 l = Lay.fair s.length zs.2 (l.drop zs.1)) (fun zs => l.length - zs.1) (fun zs => [(0, .slice A l.length c), (1, str s), (7, .int .i64 zs.2), (8, .int .i64 (zs.1 : Int))]) (fun zs => []) (fun zs => [Sl 4 tokF A l]) (0, 0) ?_ ?_ ?_ ?_ ?_
    · show (0) ≤ l.length ∧ Lay.fair s.length 0 l = Lay.fair s.length (0) (l.drop (0))
      exact ⟨Nat.zero_le _, rfl⟩
    · exact ⟨rfl, rfl, rfl, rfl, trivial⟩
    · exact .refl _
    · simp
    rintro ⟨k, lo⟩ hinv
    have hinv : k ≤ l.length ∧ Lay.fair s.length 0 l = Lay.fair s.length lo (l.drop k) := hinv
    obtain ⟨hkl, he⟩ := hinv
    show Cont _ _ _ _ [(0, .slice A l.length c), (1, str s), (7, .int .i64 lo), (8, .int .i64 (k : Int))] ([]) [Sl 4 tokF A l]
    refine c_seq ?_
    refine c_seq ?_
    refine c_reg ?_
    refine l_q (by decide) (p_move rfl).q ?_
    refine l_q (by decide) (p_move rfl).q ?_
    refine l_q (by decide) (p_len_sl Try.underlying22 rfl).q ?_
    first | refine l_q (by decide) (p_lss rfl rfl rfl rfl).q ?_ | refine l_q (by decide) (p_lssi rfl rfl).q ?_
    refine l_nil ?_
    first | refine c_dec rfl (fun h28 => ?_) (fun h28 => ?_) | refine c_cond rfl (fun h28 => ?_) (fun h28 => ?_)
    · skip
      obtain ⟨u, hu⟩ := at_some (l := l) (n := k) (by omega)
      have hdr := drop_at hu
      refine c_skip ?_
      refine c_seq ?_
      refine c_block ?_
      refine c_seq ?_
      refine c_seq ?_
      refine c_meetn (S := Unit) (fun zs => True) (fun zs => [(0, .slice A l.length c), (1, str s), (8, .int .i64 (k : Int)), (47, .bool (decide (u.at_ < lo ∨ (s.length : Int) < u.at_)))]) (fun zs => []) (fun zs => [Sl 4 tokF A l]) ?_ ?_
      · skip
        refine c_reg ?_
        refine l_q (by decide) (p_move rfl).q ?_
        refine l_q (by decide) (p_move rfl).q ?_
        first | refine l_q (by decide) (r_index Try.underlying22 inf_33 rfl rfl rfl (by first | exact .fact (by repeat (first | exact List.Mem.head _ | apply List.Mem.tail)) | exact .own (by repeat (first | exact List.Mem.head _ | apply List.Mem.tail)) (by decide) (fun _ => rfl)) rfl (by omega)).q ?_ | refine l_q (by decide) (r_index Try.underlying22 inf_33 rfl rfl rfl (by first | exact .fact (by repeat (first | exact List.Mem.head _ | apply List.Mem.tail)) | exact .own (by repeat (first | exact List.Mem.head _ | apply List.Mem.tail)) (by decide) (fun _ => rfl)) rfl (by decide)).q ?_ | refine l_q (by decide) (p_indexo Try.underlying22 inf_33 rfl rfl rfl (by omega)).q ?_
        first | refine l_q (by decide) (p_faddr (i := 1) 1 Try.underlying33 rfl inf_3 (by decide) rfl rfl).q ?_ | refine l_q (by decide) (p_faddro (i := 1) 1 Try.underlying33 rfl inf_3 (by decide) rfl rfl).q ?_
        first | refine l_q (by decide) (r_loado Try.underlying3 rfl rfl (by repeat (first | exact List.Mem.head _ | apply List.Mem.tail)) (by rfl)).q ?_ | refine l_q (by decide) (r_load1 Try.underlying3 rfl rfl (by first | exact .fact (by repeat (first | exact List.Mem.head _ | apply List.Mem.tail)) | exact .own (by repeat (first | exact List.Mem.head _ | apply List.Mem.tail)) (by decide) (fun _ => rfl)) (by first | assumption | rfl) (by rfl)).q ?_ | refine l_q (by decide) (r_loadf Try.underlying3 rfl rfl (by first | exact .fact (by repeat (first | exact List.Mem.head _ | apply List.Mem.tail)) | exact .own (by repeat (first | exact List.Mem.head _ | apply List.Mem.tail)) (by decide) (fun _ => rfl)) (by assumption) (by rfl)).q ?_
        refine l_q (by decide) (p_move rfl).q ?_
        first | refine l_q (by decide) (p_lss rfl rfl rfl rfl).q ?_ | refine l_q (by decide) (p_lssi rfl rfl).q ?_
        refine l_q (by decide) (p_move rfl).q ?_
        first | refine l_splitd (t := 38) rfl (fun h38 => ?_) (fun h38 => ?_) | refine l_splitb (t := 38) rfl (fun h38 => ?_) (fun h38 => ?_)
        · skip
          refine l_off (j := 7) rfl rfl (by first | (simp; done) | (simp [undef]; done)) (by decide) ?_
          refine l_off (j := 7) rfl rfl (by first | (simp; done) | (simp [undef]; done)) (by decide) ?_
          refine l_off (j := 7) rfl rfl (by first | (simp; done) | (simp [undef]; done)) (by decide) ?_
          refine l_off (j := 7) rfl rfl (by first | (simp; done) | (simp [undef]; done)) (by decide) ?_
          refine l_off (j := 7) rfl rfl (by first | (simp; done) | (simp [undef]; done)) (by decide) ?_
          refine l_off (j := 7) rfl rfl (by first | (simp; done) | (simp [undef]; done)) (by decide) ?_
          refine l_off (j := 7) rfl rfl (by first | (simp; done) | (simp [undef]; done)) (by decide) ?_
          refine l_off (j := 7) rfl rfl (by first | (simp; done) | (simp [undef]; done)) (by decide) ?_
          refine l_q (by decide) (p_pick rfl rfl).q ?_
          refine l_nil ?_
          refine c_join (()) ?inv ?sub ?perm ?facts
          case sub => exact ⟨rfl, rfl, rfl, (by first | rfl | exact congrArg (fun b => some (Value.bool b)) (decide_eq_true (by omega)).symm | exact congrArg (fun b => some (Value.bool b)) (decide_eq_false (by omega)).symm | exact congrArg (fun b => some (Value.bool b)) (decide_eq_decide.2 (by omega))), trivial⟩
          case perm =>
            exact .refl _
          case facts => exact fun _ h => h
          case inv =>
            trivial
        · skip
          refine l_g (j := 7) rfl rfl (by decide) (p_move rfl).q ?_
          refine l_g (j := 7) rfl rfl (by decide) (p_move rfl).q ?_
          first | refine l_g (j := 7) rfl rfl (by decide) (r_index Try.underlying22 inf_33 rfl rfl rfl (by first | exact .fact (by repeat (first | exact List.Mem.head _ | apply List.Mem.tail)) | exact .own (by repeat (first | exact List.Mem.head _ | apply List.Mem.tail)) (by decide) (fun _ => rfl)) rfl (by omega)).q ?_ | refine l_g (j := 7) rfl rfl (by decide) (r_index Try.underlying22 inf_33 rfl rfl rfl (by first | exact .fact (by repeat (first | exact List.Mem.head _ | apply List.Mem.tail)) | exact .own (by repeat (first | exact List.Mem.head _ | apply List.Mem.tail)) (by decide) (fun _ => rfl)) rfl (by decide)).q ?_ | refine l_g (j := 7) rfl rfl (by decide) (p_indexo Try.underlying22 inf_33 rfl rfl rfl (by omega)).q ?_
          first | refine l_g (j := 7) rfl rfl (by decide) (p_faddr (i := 1) 1 Try.underlying33 rfl inf_3 (by decide) rfl rfl).q ?_ | refine l_g (j := 7) rfl rfl (by decide) (p_faddro (i := 1) 1 Try.underlying33 rfl inf_3 (by decide) rfl rfl).q ?_
          first | refine l_g (j := 7) rfl rfl (by decide) (r_loado Try.underlying3 rfl rfl (by repeat (first | exact List.Mem.head _ | apply List.Mem.tail)) (by rfl)).q ?_ | refine l_g (j := 7) rfl rfl (by decide) (r_load1 Try.underlying3 rfl rfl (by first | exact .fact (by repeat (first | exact List.Mem.head _ | apply List.Mem.tail)) | exact .own (by repeat (first | exact List.Mem.head _ | apply List.Mem.tail)) (by decide) (fun _ => rfl)) (by first | assumption | rfl) (by rfl)).q ?_ | refine l_g (j := 7) rfl rfl (by decide) (r_loadf Try.underlying3 rfl rfl (by first | exact .fact (by repeat (first | exact List.Mem.head _ | apply List.Mem.tail)) | exact .own (by repeat (first | exact List.Mem.head _ | apply List.Mem.tail)) (by decide) (fun _ => rfl)) (by assumption) (by rfl)).q ?_
          refine l_g (j := 7) rfl rfl (by decide) (p_move rfl).q ?_
          refine l_g (j := 7) rfl rfl (by decide) (p_len_str Try.underlying9 rfl).q ?_
          first | refine l_g (j := 7) rfl rfl (by decide) (p_gtr rfl rfl rfl rfl).q ?_ | refine l_g (j := 7) rfl rfl (by decide) (p_gtri rfl rfl).q ?_
          refine l_q (by decide) (p_pick rfl rfl).q ?_
          refine l_nil ?_
          refine c_join (()) ?inv ?sub ?perm ?facts
          case sub => exact ⟨rfl, rfl, rfl, (by first | rfl | exact congrArg (fun b => some (Value.bool b)) (decide_eq_true (by omega)).symm | exact congrArg (fun b => some (Value.bool b)) (decide_eq_false (by omega)).symm | exact congrArg (fun b => some (Value.bool b)) (decide_eq_decide.2 (by omega))), trivial⟩
          case perm =>
            exact .refl _
          case facts => exact fun _ h => h
          case inv =>
            trivial
      rintro uu hmeet
      show Cont _ _ _ _ [(0, .slice A l.length c), (1, str s), (8, .int .i64 (k : Int)), (47, .bool (decide (u.at_ < lo ∨ (s.length : Int) < u.at_)))] ([]) [Sl 4 tokF A l]
      first | refine c_dec rfl (fun h47 => ?_) (fun h47 => ?_) | refine c_cond rfl (fun h47 => ?_) (fun h47 => ?_)
      · skip
        refine c_seq ?_
        refine c_reg ?_
        refine l_q (by decide) (p_assign rfl).q ?_
        refine l_nil ?_
        refine c_ret ?_
        refine c_ret1 rfl rfl (fun w hs => ?_)
        exact ⟨by unfold Lay.fairB; rw [if_neg h24, he, hdr, Lay.fair, if_pos h47], hs.ext⟩
      · skip
        refine c_skip ?_
        refine c_reg ?_
        refine l_q (by decide) (p_move rfl).q ?_
        refine l_q (by decide) (p_move rfl).q ?_
        first | refine l_q (by decide) (r_index Try.underlying22 inf_33 rfl rfl rfl (by first | exact .fact (by repeat (first | exact List.Mem.head _ | apply List.Mem.tail)) | exact .own (by repeat (first | exact List.Mem.head _ | apply List.Mem.tail)) (by decide) (fun _ => rfl)) rfl (by omega)).q ?_ | refine l_q (by decide) (r_index Try.underlying22 inf_33 rfl rfl rfl (by first | exact .fact (by repeat (first | exact List.Mem.head _ | apply List.Mem.tail)) | exact .own (by repeat (first | exact List.Mem.head _ | apply List.Mem.tail)) (by decide) (fun _ => rfl)) rfl (by decide)).q ?_ | refine l_q (by decide) (p_indexo Try.underlying22 inf_33 rfl rfl rfl (by omega)).q ?_
        first | refine l_q (by decide) (p_faddr (i := 1) 1 Try.underlying33 rfl inf_3 (by decide) rfl rfl).q ?_ | refine l_q (by decide) (p_faddro (i := 1) 1 Try.underlying33 rfl inf_3 (by decide) rfl rfl).q ?_
        first | refine l_q (by decide) (r_loado Try.underlying3 rfl rfl (by repeat (first | exact List.Mem.head _ | apply List.Mem.tail)) (by rfl)).q ?_ | refine l_q (by decide) (r_load1 Try.underlying3 rfl rfl (by first | exact .fact (by repeat (first | exact List.Mem.head _ | apply List.Mem.tail)) | exact .own (by repeat (first | exact List.Mem.head _ | apply List.Mem.tail)) (by decide) (fun _ => rfl)) (by first | assumption | rfl) (by rfl)).q ?_ | refine l_q (by decide) (r_loadf Try.underlying3 rfl rfl (by first | exact .fact (by repeat (first | exact List.Mem.head _ | apply List.Mem.tail)) | exact .own (by repeat (first | exact List.Mem.head _ | apply List.Mem.tail)) (by decide) (fun _ => rfl)) (by assumption) (by rfl)).q ?_
        refine l_q (by decide) (p_assign rfl).q ?_
        refine l_nil ?_
        refine c_reg ?_
        refine l_q (by decide) (p_move rfl).q ?_
        first | refine l_q (by decide) (p_add (j := 1) rfl rfl rfl rfl (by show _ ≤ (9223372036854775807 : Nat); omega)).q ?_ | refine l_q (by decide) (p_addi rfl rfl (by show (-9223372036854775808 : Int) ≤ _; omega) (by show _ ≤ ((9223372036854775807 : Nat) : Int); omega)).q ?_
        refine l_q (by decide) (p_assign rfl).q ?_
        refine l_nil ?_
        refine c_join ((k + 1), (u.at_)) ?_ ?_ ?_ ?_
        · show ((k + 1) ≤ l.length ∧ Lay.fair s.length 0 l = Lay.fair s.length (u.at_) (l.drop (k + 1))) ∧ l.length - (k + 1) < l.length - k
          exact ⟨⟨by omega, by rw [he, hdr, Lay.fair, if_neg h47]⟩, by omega⟩
        · exact ⟨rfl, rfl, rfl, rfl, trivial⟩
        · show List.Perm _ ([])
          exact .refl _
        · exact fun _ h => h
    · skip
      refine c_exit ?_
      refine c_here ?_
      refine c_seq ?_
      refine c_reg ?_
      refine l_q (by decide) (p_assign rfl).q ?_
      refine l_nil ?_
      refine c_ret ?_
      refine c_ret1 rfl rfl (fun w hs => ?_)
      exact ⟨by unfold Lay.fairB; rw [if_neg h24, he, List.drop_of_length_le (by omega)]; rfl, hs.ext⟩

theorem plain_ok (A : Option Addr) (c : Nat) (l : List Lay.T) (s : List UInt8) (defs : Int) (hl : l.length ≤ 1000000) (w : World) (hq : Sl 4 tokF A l w) :
    Calls Try.prog 15 #[.agg #[.slice A l.length c, str s, .int .i64 defs]] w (Ret fun v w' => v = .bool (Lay.plainB defs l) ∧ Ext [] w w') := by
  refine calls_fx (l := [.agg #[.slice A l.length c, str s, .int .i64 defs]]) Try.func15 rfl Try.ntmps15 (Nat.le_of_ble_eq_true rfl) ((St.start w).old hq (dep_sl (by decide) hq)) ?_
  refine c_seq ?_
  refine c_reg ?_
  refine l_box (by decide) rfl _ rfl (fun b1 => ?_)
  refine l_q (by decide) (p_assign rfl).q ?_
  refine l_nil ?_
  refine c_seq ?_
  refine c_seq ?_
  refine c_reg ?_
  refine l_q (by decide) (p_assign (v := .int .i64 ((0 : Nat) : Int)) rfl).q ?_
  refine l_nil ?_
  refine c_block ?_
  refine c_loop (S := Nat) (fun zs => zs ≤ l.length ∧ Lay.plainB defs (l.take zs) = true) (fun zs => l.length - zs) (fun zs => [(1, .pointer (some ⟨b1, 0, none⟩)), (3, .int .i64 (zs : Int))]) (fun zs => [iCells b1 24 [.slice A l.length c, str s, .int .i64 defs]]) (fun zs => [Sl 4 tokF A l]) (0) ?_ ?_ ?_ ?_ ?_
  · show (0) ≤ l.length ∧ Lay.plainB defs (l.take (0)) = true
    exact ⟨Nat.zero_le _, rfl⟩
  · exact ⟨rfl, rfl, trivial⟩
  · exact .refl _
  · simp
  rintro k hinv
  have hinv : k ≤ l.length ∧ Lay.plainB defs (l.take k) = true := hinv
  obtain ⟨hkl, he⟩ := hinv
  show Cont _ _ _ _ [(1, .pointer (some ⟨b1, 0, none⟩)), (3, .int .i64 (k : Int))] ([iCells b1 24 [.slice A l.length c, str s, .int .i64 defs]]) [Sl 4 tokF A l]
  refine c_seq ?_
  refine c_seq ?_
  refine c_reg ?_
  refine l_q (by decide) (p_move rfl).q ?_
  first | refine l_q (by decide) (p_faddr (i := 0) 0 Try.underlying24 rfl inf_22 (by decide) rfl rfl).q ?_ | refine l_q (by decide) (p_faddro (i := 0) 0 Try.underlying24 rfl inf_22 (by decide) rfl rfl).q ?_
  first | refine l_q (by decide) (r_loado Try.underlying22 rfl rfl (by repeat (first | exact List.Mem.head _ | apply List.Mem.tail)) (by rfl)).q ?_ | refine l_q (by decide) (r_load1 Try.underlying22 rfl rfl (by first | exact .fact (by repeat (first | exact List.Mem.head _ | apply List.Mem.tail)) | exact .own (by repeat (first | exact List.Mem.head _ | apply List.Mem.tail)) (by decide) (fun _ => rfl)) (by first | assumption | rfl) (by rfl)).q ?_ | refine l_q (by decide) (r_loadf Try.underlying22 rfl rfl (by first | exact .fact (by repeat (first | exact List.Mem.head _ | apply List.Mem.tail)) | exact .own (by repeat (first | exact List.Mem.head _ | apply List.Mem.tail)) (by decide) (fun _ => rfl)) (by assumption) (by rfl)).q ?_
  refine l_q (by decide) (p_len_sl Try.underlying22 rfl).q ?_
  first | refine l_q (by decide) (p_lss rfl rfl rfl rfl).q ?_ | refine l_q (by decide) (p_lssi rfl rfl).q ?_
  refine l_nil ?_
  first | refine c_dec rfl (fun h8 => ?_) (fun h8 => ?_) | refine c_cond rfl (fun h8 => ?_) (fun h8 => ?_)
  · skip
    obtain ⟨u, hu⟩ := at_some (l := l) (n := k) (by omega)
    refine c_skip ?_
    refine c_seq ?_
    refine c_block ?_
    refine c_seq ?_
    refine c_draw mixed (by decide +kernel) ?_
    first | refine q_q (by decide) (p_faddr (i := 0) 0 Try.underlying24 rfl inf_22 (by decide) rfl rfl).q ?_ | refine q_q (by decide) (p_faddro (i := 0) 0 Try.underlying24 rfl inf_22 (by decide) rfl rfl).q ?_
    first | refine q_q (by decide) (r_loado Try.underlying22 rfl rfl (by repeat (first | exact List.Mem.head _ | apply List.Mem.tail)) (by rfl)).q ?_ | refine q_q (by decide) (r_load1 Try.underlying22 rfl rfl (by first | exact .fact (by repeat (first | exact List.Mem.head _ | apply List.Mem.tail)) | exact .own (by repeat (first | exact List.Mem.head _ | apply List.Mem.tail)) (by decide) (fun _ => rfl)) (by first | assumption | rfl) (by rfl)).q ?_ | refine q_q (by decide) (r_loadf Try.underlying22 rfl rfl (by first | exact .fact (by repeat (first | exact List.Mem.head _ | apply List.Mem.tail)) | exact .own (by repeat (first | exact List.Mem.head _ | apply List.Mem.tail)) (by decide) (fun _ => rfl)) (by assumption) (by rfl)).q ?_
    refine q_q (by decide) (p_move rfl).q ?_
    first | refine q_q (by decide) (r_index Try.underlying22 inf_33 rfl rfl rfl (by first | exact .fact (by repeat (first | exact List.Mem.head _ | apply List.Mem.tail)) | exact .own (by repeat (first | exact List.Mem.head _ | apply List.Mem.tail)) (by decide) (fun _ => rfl)) rfl (by omega)).q ?_ | refine q_q (by decide) (r_index Try.underlying22 inf_33 rfl rfl rfl (by first | exact .fact (by repeat (first | exact List.Mem.head _ | apply List.Mem.tail)) | exact .own (by repeat (first | exact List.Mem.head _ | apply List.Mem.tail)) (by decide) (fun _ => rfl)) rfl (by decide)).q ?_ | refine q_q (by decide) (p_indexo Try.underlying22 inf_33 rfl rfl rfl (by omega)).q ?_
    first | refine q_q (by decide) (p_faddr (i := 0) 0 Try.underlying33 rfl inf_3 (by decide) rfl rfl).q ?_ | refine q_q (by decide) (p_faddro (i := 0) 0 Try.underlying33 rfl inf_3 (by decide) rfl rfl).q ?_
    first | refine q_q (by decide) (r_loado Try.underlying3 rfl rfl (by repeat (first | exact List.Mem.head _ | apply List.Mem.tail)) (by rfl)).q ?_ | refine q_q (by decide) (r_load1 Try.underlying3 rfl rfl (by first | exact .fact (by repeat (first | exact List.Mem.head _ | apply List.Mem.tail)) | exact .own (by repeat (first | exact List.Mem.head _ | apply List.Mem.tail)) (by decide) (fun _ => rfl)) (by first | assumption | rfl) (by rfl)).q ?_ | refine q_q (by decide) (r_loadf Try.underlying3 rfl rfl (by first | exact .fact (by repeat (first | exact List.Mem.head _ | apply List.Mem.tail)) | exact .own (by repeat (first | exact List.Mem.head _ | apply List.Mem.tail)) (by decide) (fun _ => rfl)) (by assumption) (by rfl)).q ?_
    first | refine q_q (by decide) (p_faddr (i := 2) 2 Try.underlying24 rfl inf_3 (by decide) rfl rfl).q ?_ | refine q_q (by decide) (p_faddro (i := 2) 2 Try.underlying24 rfl inf_3 (by decide) rfl rfl).q ?_
    first | refine q_q (by decide) (r_loado Try.underlying3 rfl rfl (by repeat (first | exact List.Mem.head _ | apply List.Mem.tail)) (by rfl)).q ?_ | refine q_q (by decide) (r_load1 Try.underlying3 rfl rfl (by first | exact .fact (by repeat (first | exact List.Mem.head _ | apply List.Mem.tail)) | exact .own (by repeat (first | exact List.Mem.head _ | apply List.Mem.tail)) (by decide) (fun _ => rfl)) (by first | assumption | rfl) (by rfl)).q ?_ | refine q_q (by decide) (r_loadf Try.underlying3 rfl rfl (by first | exact .fact (by repeat (first | exact List.Mem.head _ | apply List.Mem.tail)) | exact .own (by repeat (first | exact List.Mem.head _ | apply List.Mem.tail)) (by decide) (fun _ => rfl)) (by assumption) (by rfl)).q ?_
    first | refine q_q (by decide) (p_geq rfl rfl rfl rfl).q ?_ | refine q_q (by decide) (p_geqi rfl rfl).q ?_
    refine q_nil ?_
    first | refine c_dec rfl (fun h19 => ?_) (fun h19 => ?_) | refine c_cond rfl (fun h19 => ?_) (fun h19 => ?_)
    · skip
      refine c_seq ?_
      refine c_reg ?_
      refine l_q (by decide) (p_assign rfl).q ?_
      refine l_nil ?_
      refine c_ret ?_
      refine c_ret1 rfl rfl (fun w hs => ?_)
      exact ⟨by rw [plain_no hu (by omega)], hs.ext⟩
    · skip
      refine c_skip ?_
      refine c_reg ?_
      refine l_q (by decide) (p_move rfl).q ?_
      first | refine l_q (by decide) (p_add (j := 1) rfl rfl rfl rfl (by show _ ≤ (9223372036854775807 : Nat); omega)).q ?_ | refine l_q (by decide) (p_addi rfl rfl (by show (-9223372036854775808 : Int) ≤ _; omega) (by show _ ≤ ((9223372036854775807 : Nat) : Int); omega)).q ?_
      refine l_q (by decide) (p_assign rfl).q ?_
      refine l_nil ?_
      refine c_join ((k + 1)) ?_ ?_ ?_ ?_
      · show ((k + 1) ≤ l.length ∧ Lay.plainB defs (l.take (k + 1)) = true) ∧ l.length - (k + 1) < l.length - k
        exact ⟨⟨by omega, plain_step hu he (by omega)⟩, by omega⟩
      · exact ⟨rfl, rfl, trivial⟩
      · show List.Perm _ ([iCells b1 24 [.slice A l.length c, str s, .int .i64 defs]])
        exact .refl _
      · exact fun _ h => h
  · skip
    refine c_exit ?_
    refine c_here ?_
    refine c_seq ?_
    refine c_reg ?_
    refine l_q (by decide) (p_assign rfl).q ?_
    refine l_nil ?_
    refine c_ret ?_
    refine c_ret1 rfl rfl (fun w hs => ?_)
    rw [List.take_of_length_le (by omega)] at he
    exact ⟨by rw [he], hs.ext⟩

theorem top_ok (b k d : Nat) (B : Option Addr) (lv : List Nat) (hl : lv.length ≤ 1000) (w : World) (hc : w.cell? ⟨b, k, none⟩ = some (.slice B lv.reverse.length d)) (hq : Sl 1 natF B lv.reverse w) :
    Calls Try.prog 26 #[.pointer (some ⟨b, k, none⟩)] w (Ret fun v w' => v = .int .i64 ((Lay.top lv : Nat) : Int) ∧ Ext [] w w') := by
  refine calls_fx (l := [.pointer (some ⟨b, k, none⟩)]) Try.func26 rfl Try.ntmps26 (Nat.le_of_ble_eq_true rfl) (Holds.two hc (dep_cell hc) hq (dep_sl (by decide) hq)) ?_
  refine c_seq ?_
  refine c_reg ?_
  refine l_q (by decide) (p_assign (v := .int .i64 ((0 : Nat) : Int)) rfl).q ?_
  refine l_nil ?_
  refine c_seq ?_
  refine c_seq ?_
  refine c_reg ?_
  refine l_q (by decide) (p_move rfl).q ?_
  refine l_q (by decide) (p_nilp rfl).q ?_
  refine l_q (by decide) (r_loadq (q := (fun w : World => w.cell? ⟨b, k, none⟩ = some (.slice B lv.reverse.length d))) Try.underlying39 rfl rfl (by repeat (first | exact List.Mem.head _ | apply List.Mem.tail)) (fun _ h => h)).q ?_
  refine l_q (by decide) (p_len_sl Try.underlying39 rfl).q ?_
  first | refine l_q (by decide) (p_eql (j := 0) rfl rfl rfl rfl).q ?_ | refine l_q (by decide) (p_eqli rfl rfl).q ?_
  refine l_nil ?_
  first | refine c_dec rfl (fun h7 => ?_) (fun h7 => ?_) | refine c_cond rfl (fun h7 => ?_) (fun h7 => ?_)
  · skip
    refine c_seq ?_
    refine c_reg ?_
    refine l_q (by decide) (p_assign (v := .int .i64 ((0 : Nat) : Int)) rfl).q ?_
    refine l_nil ?_
    refine c_ret ?_
    refine c_ret1 rfl rfl (fun w hs => ?_)
    have : lv = [] := List.eq_nil_of_length_eq_zero (by rw [List.length_reverse] at h7; omega)
    subst this
    exact ⟨rfl, hs.ext⟩
  · skip
    have hlr : lv.reverse.length = lv.length := List.length_reverse
    have hla := Lay.last_top lv (by omega)
    refine c_skip ?_
    refine c_seq ?_
    refine c_draw mixed (by decide +kernel) ?_
    refine q_q (by decide) (p_move rfl).q ?_
    refine q_q (by decide) (p_nilp rfl).q ?_
    refine q_q (by decide) (r_loadq (q := (fun w : World => w.cell? ⟨b, k, none⟩ = some (.slice B lv.reverse.length d))) Try.underlying39 rfl rfl (by repeat (first | exact List.Mem.head _ | apply List.Mem.tail)) (fun _ h => h)).q ?_
    refine q_q (by decide) (p_move rfl).q ?_
    refine q_q (by decide) (p_nilp rfl).q ?_
    refine q_q (by decide) (r_loadq (q := (fun w : World => w.cell? ⟨b, k, none⟩ = some (.slice B lv.reverse.length d))) Try.underlying39 rfl rfl (by repeat (first | exact List.Mem.head _ | apply List.Mem.tail)) (fun _ h => h)).q ?_
    refine q_q (by decide) (p_len_sl Try.underlying39 rfl).q ?_
    first | refine q_q (by decide) (p_sub (j := 1) rfl rfl rfl rfl (by omega) (by show _ ≤ (9223372036854775807 : Nat); omega)).q ?_ | refine q_q (by decide) (p_subi rfl rfl (by show (-9223372036854775808 : Int) ≤ _; omega) (by show _ ≤ ((9223372036854775807 : Nat) : Int); omega)).q ?_
    first | refine q_q (by decide) (r_index Try.underlying39 inf_3 rfl rfl rfl (by first | exact .fact (by repeat (first | exact List.Mem.head _ | apply List.Mem.tail)) | exact .own (by repeat (first | exact List.Mem.head _ | apply List.Mem.tail)) (by decide) (fun _ => rfl)) rfl (by omega)).q ?_ | refine q_q (by decide) (r_index Try.underlying39 inf_3 rfl rfl rfl (by first | exact .fact (by repeat (first | exact List.Mem.head _ | apply List.Mem.tail)) | exact .own (by repeat (first | exact List.Mem.head _ | apply List.Mem.tail)) (by decide) (fun _ => rfl)) rfl (by decide)).q ?_ | refine q_q (by decide) (p_indexo Try.underlying39 inf_3 rfl rfl rfl (by omega)).q ?_
    first | refine q_q (by decide) (r_loado Try.underlying3 rfl rfl (by repeat (first | exact List.Mem.head _ | apply List.Mem.tail)) (by rfl)).q ?_ | refine q_q (by decide) (r_load1 Try.underlying3 rfl rfl (by first | exact .fact (by repeat (first | exact List.Mem.head _ | apply List.Mem.tail)) | exact .own (by repeat (first | exact List.Mem.head _ | apply List.Mem.tail)) (by decide) (fun _ => rfl)) (by first | assumption | rfl) (by rfl)).q ?_ | refine q_q (by decide) (r_loadf Try.underlying3 rfl rfl (by first | exact .fact (by repeat (first | exact List.Mem.head _ | apply List.Mem.tail)) | exact .own (by repeat (first | exact List.Mem.head _ | apply List.Mem.tail)) (by decide) (fun _ => rfl)) (by assumption) (by rfl)).q ?_
    refine q_q (by decide) (p_assign rfl).q ?_
    refine q_nil ?_
    refine c_ret ?_
    refine c_ret1 rfl rfl (fun w hs => ?_)
    exact ⟨rfl, hs.ext⟩

theorem second_ok (b k d : Nat) (B : Option Addr) (lv : List Nat) (hl : lv.length ≤ 1000) (w : World) (hc : w.cell? ⟨b, k, none⟩ = some (.slice B lv.reverse.length d)) (hq : Sl 1 natF B lv.reverse w) :
    Calls Try.prog 27 #[.pointer (some ⟨b, k, none⟩)] w (Ret fun v w' => v = .int .i64 ((Lay.top (lv.drop 1) : Nat) : Int) ∧ Ext [] w w') := by
  refine calls_fx (l := [.pointer (some ⟨b, k, none⟩)]) Try.func27 rfl Try.ntmps27 (Nat.le_of_ble_eq_true rfl) (Holds.two hc (dep_cell hc) hq (dep_sl (by decide) hq)) ?_
  refine c_seq ?_
  refine c_reg ?_
  refine l_q (by decide) (p_assign (v := .int .i64 ((0 : Nat) : Int)) rfl).q ?_
  refine l_nil ?_
  refine c_seq ?_
  refine c_seq ?_
  refine c_reg ?_
  refine l_q (by decide) (p_move rfl).q ?_
  refine l_q (by decide) (p_nilp rfl).q ?_
  refine l_q (by decide) (r_loadq (q := (fun w : World => w.cell? ⟨b, k, none⟩ = some (.slice B lv.reverse.length d))) Try.underlying39 rfl rfl (by repeat (first | exact List.Mem.head _ | apply List.Mem.tail)) (fun _ h => h)).q ?_
  refine l_q (by decide) (p_len_sl Try.underlying39 rfl).q ?_
  first | refine l_q (by decide) (p_lss (j := 2) rfl rfl rfl rfl).q ?_ | refine l_q (by decide) (p_lssi rfl rfl).q ?_
  refine l_nil ?_
  first | refine c_dec rfl (fun h7 => ?_) (fun h7 => ?_) | refine c_cond rfl (fun h7 => ?_) (fun h7 => ?_)
  · skip
    refine c_seq ?_
    refine c_reg ?_
    refine l_q (by decide) (p_assign (v := .int .i64 ((0 : Nat) : Int)) rfl).q ?_
    refine l_nil ?_
    refine c_ret ?_
    refine c_ret1 rfl rfl (fun w hs => ?_)
    rw [List.length_reverse] at h7
    exact ⟨by rw [Lay.top_short lv h7], hs.ext⟩
  · skip
    have hlr : lv.reverse.length = lv.length := List.length_reverse
    have hla := Lay.last_second lv (by omega)
    refine c_skip ?_
    refine c_seq ?_
    refine c_draw mixed (by decide +kernel) ?_
    refine q_q (by decide) (p_move rfl).q ?_
    refine q_q (by decide) (p_nilp rfl).q ?_
    refine q_q (by decide) (r_loadq (q := (fun w : World => w.cell? ⟨b, k, none⟩ = some (.slice B lv.reverse.length d))) Try.underlying39 rfl rfl (by repeat (first | exact List.Mem.head _ | apply List.Mem.tail)) (fun _ h => h)).q ?_
    refine q_q (by decide) (p_move rfl).q ?_
    refine q_q (by decide) (p_nilp rfl).q ?_
    refine q_q (by decide) (r_loadq (q := (fun w : World => w.cell? ⟨b, k, none⟩ = some (.slice B lv.reverse.length d))) Try.underlying39 rfl rfl (by repeat (first | exact List.Mem.head _ | apply List.Mem.tail)) (fun _ h => h)).q ?_
    refine q_q (by decide) (p_len_sl Try.underlying39 rfl).q ?_
    first | refine q_q (by decide) (p_sub (j := 2) rfl rfl rfl rfl (by omega) (by show _ ≤ (9223372036854775807 : Nat); omega)).q ?_ | refine q_q (by decide) (p_subi rfl rfl (by show (-9223372036854775808 : Int) ≤ _; omega) (by show _ ≤ ((9223372036854775807 : Nat) : Int); omega)).q ?_
    first | refine q_q (by decide) (r_index Try.underlying39 inf_3 rfl rfl rfl (by first | exact .fact (by repeat (first | exact List.Mem.head _ | apply List.Mem.tail)) | exact .own (by repeat (first | exact List.Mem.head _ | apply List.Mem.tail)) (by decide) (fun _ => rfl)) rfl (by omega)).q ?_ | refine q_q (by decide) (r_index Try.underlying39 inf_3 rfl rfl rfl (by first | exact .fact (by repeat (first | exact List.Mem.head _ | apply List.Mem.tail)) | exact .own (by repeat (first | exact List.Mem.head _ | apply List.Mem.tail)) (by decide) (fun _ => rfl)) rfl (by decide)).q ?_ | refine q_q (by decide) (p_indexo Try.underlying39 inf_3 rfl rfl rfl (by omega)).q ?_
    first | refine q_q (by decide) (r_loado Try.underlying3 rfl rfl (by repeat (first | exact List.Mem.head _ | apply List.Mem.tail)) (by rfl)).q ?_ | refine q_q (by decide) (r_load1 Try.underlying3 rfl rfl (by first | exact .fact (by repeat (first | exact List.Mem.head _ | apply List.Mem.tail)) | exact .own (by repeat (first | exact List.Mem.head _ | apply List.Mem.tail)) (by decide) (fun _ => rfl)) (by first | assumption | rfl) (by rfl)).q ?_ | refine q_q (by decide) (r_loadf Try.underlying3 rfl rfl (by first | exact .fact (by repeat (first | exact List.Mem.head _ | apply List.Mem.tail)) | exact .own (by repeat (first | exact List.Mem.head _ | apply List.Mem.tail)) (by decide) (fun _ => rfl)) (by assumption) (by rfl)).q ?_
    refine q_q (by decide) (p_assign rfl).q ?_
    refine q_nil ?_
    refine c_ret ?_
    refine c_ret1 rfl rfl (fun w hs => ?_)
    exact ⟨rfl, hs.ext⟩

theorem layout_ok (b c κ p : Nat) (defs : Int) (A : Option Addr) (lvv : Value) (o : List Lay.T) (hk : κ ≤ 2) (hp : p ≤ 1000) (hd1 : 0 ≤ defs) (hd2 : defs ≤ 1000) (ho : o.length ≤ 100000) (K : List Nat) (ρ : Facts) (w : World) (h : St w K w [iCells b 41 [.slice A o.length c, .int .i64 defs, lvv], iSl 33 4 tokF A c o] ρ) :
    Calls Try.prog 24 #[.pointer (some ⟨b, 0, none⟩), .int .i64 (κ : Int), .int .i64 (p : Int)] w (Ret fun v w' => ∃ (x : Option Addr × Nat) (ρ' : Facts), v = .tuple #[] ∧ St w K w' [iCells b 41 [.slice x.1 (o ++ [Lay.tok (defs + κ) p]).length x.2, .int .i64 defs, lvv], iSl 33 4 tokF x.1 x.2 (o ++ [Lay.tok (defs + κ) p])] ρ') := by
  refine calls_fx (l := [.pointer (some ⟨b, 0, none⟩), .int .i64 (κ : Int), .int .i64 (p : Int)]) Try.func24 rfl Try.ntmps24 (Nat.le_of_ble_eq_true rfl) h ?_
  refine m_draw [14, 17] mixed ?_
  refine m_takep 0 rfl (by kernel_rfl) (by decide) (p_move rfl) ?_
  refine m_takep 1 rfl (by kernel_rfl) (by decide) (p_move rfl) ?_
  refine m_takep 2 rfl (by kernel_rfl) (by decide) (p_nilp rfl) ?_
  first | refine m_takep 3 rfl (by kernel_rfl) (by decide) (p_faddr (i := 0) 0 Try.underlying41 rfl inf_22 (by decide) rfl rfl) ?_ | refine m_takep 3 rfl (by kernel_rfl) (by decide) (p_faddro (i := 0) 0 Try.underlying41 rfl inf_22 (by decide) rfl rfl) ?_
  first | refine m_take 4 rfl (by kernel_rfl) (by decide) (by first | exact (List.Perm.refl _ : List.Perm _ ([] ++ _)) | exact (List.Perm.refl _ : List.Perm _ ([_] ++ _)) | exact (List.Perm.refl _ : List.Perm _ ([_, _] ++ _)) | exact (List.Perm.refl _ : List.Perm _ ([_, _, _] ++ _)) | exact (List.Perm.refl _ : List.Perm _ ([_, _, _, _] ++ _)) | exact (List.Perm.refl _ : List.Perm _ ([_, _, _, _, _] ++ _))) (by first | exact fun _ h => h | exact fun _ h => List.mem_cons_of_mem _ h | exact fun _ h => List.mem_cons_of_mem _ (List.mem_cons_of_mem _ h)) (r_loado Try.underlying22 rfl rfl (by repeat (first | exact List.Mem.head _ | apply List.Mem.tail)) (by rfl)).r ?_ | refine m_take 4 rfl (by kernel_rfl) (by decide) (by first | exact (List.Perm.refl _ : List.Perm _ ([] ++ _)) | exact (List.Perm.refl _ : List.Perm _ ([_] ++ _)) | exact (List.Perm.refl _ : List.Perm _ ([_, _] ++ _)) | exact (List.Perm.refl _ : List.Perm _ ([_, _, _] ++ _)) | exact (List.Perm.refl _ : List.Perm _ ([_, _, _, _] ++ _)) | exact (List.Perm.refl _ : List.Perm _ ([_, _, _, _, _] ++ _))) (by first | exact fun _ h => h | exact fun _ h => List.mem_cons_of_mem _ h | exact fun _ h => List.mem_cons_of_mem _ (List.mem_cons_of_mem _ h)) (r_load1 Try.underlying22 rfl rfl (by first | exact .fact (by repeat (first | exact List.Mem.head _ | apply List.Mem.tail)) | exact .own (by repeat (first | exact List.Mem.head _ | apply List.Mem.tail)) (by decide) (fun _ => rfl)) (by first | assumption | rfl) (by rfl)).r ?_ | refine m_take 4 rfl (by kernel_rfl) (by decide) (by first | exact (List.Perm.refl _ : List.Perm _ ([] ++ _)) | exact (List.Perm.refl _ : List.Perm _ ([_] ++ _)) | exact (List.Perm.refl _ : List.Perm _ ([_, _] ++ _)) | exact (List.Perm.refl _ : List.Perm _ ([_, _, _] ++ _)) | exact (List.Perm.refl _ : List.Perm _ ([_, _, _, _] ++ _)) | exact (List.Perm.refl _ : List.Perm _ ([_, _, _, _, _] ++ _))) (by first | exact fun _ h => h | exact fun _ h => List.mem_cons_of_mem _ h | exact fun _ h => List.mem_cons_of_mem _ (List.mem_cons_of_mem _ h)) (r_loadf Try.underlying22 rfl rfl (by first | exact .fact (by repeat (first | exact List.Mem.head _ | apply List.Mem.tail)) | exact .own (by repeat (first | exact List.Mem.head _ | apply List.Mem.tail)) (by decide) (fun _ => rfl)) (by assumption) (by rfl)).r ?_
  refine m_takep 5 rfl (by kernel_rfl) (by decide) (p_move rfl) ?_
  refine m_takep 6 rfl (by kernel_rfl) (by decide) (p_nilp rfl) ?_
  first | refine m_takep 7 rfl (by kernel_rfl) (by decide) (p_faddr (i := 1) 1 Try.underlying41 rfl inf_3 (by decide) rfl rfl) ?_ | refine m_takep 7 rfl (by kernel_rfl) (by decide) (p_faddro (i := 1) 1 Try.underlying41 rfl inf_3 (by decide) rfl rfl) ?_
  first | refine m_take 8 rfl (by kernel_rfl) (by decide) (by first | exact (List.Perm.refl _ : List.Perm _ ([] ++ _)) | exact (List.Perm.refl _ : List.Perm _ ([_] ++ _)) | exact (List.Perm.refl _ : List.Perm _ ([_, _] ++ _)) | exact (List.Perm.refl _ : List.Perm _ ([_, _, _] ++ _)) | exact (List.Perm.refl _ : List.Perm _ ([_, _, _, _] ++ _)) | exact (List.Perm.refl _ : List.Perm _ ([_, _, _, _, _] ++ _))) (by first | exact fun _ h => h | exact fun _ h => List.mem_cons_of_mem _ h | exact fun _ h => List.mem_cons_of_mem _ (List.mem_cons_of_mem _ h)) (r_loado Try.underlying3 rfl rfl (by repeat (first | exact List.Mem.head _ | apply List.Mem.tail)) (by rfl)).r ?_ | refine m_take 8 rfl (by kernel_rfl) (by decide) (by first | exact (List.Perm.refl _ : List.Perm _ ([] ++ _)) | exact (List.Perm.refl _ : List.Perm _ ([_] ++ _)) | exact (List.Perm.refl _ : List.Perm _ ([_, _] ++ _)) | exact (List.Perm.refl _ : List.Perm _ ([_, _, _] ++ _)) | exact (List.Perm.refl _ : List.Perm _ ([_, _, _, _] ++ _)) | exact (List.Perm.refl _ : List.Perm _ ([_, _, _, _, _] ++ _))) (by first | exact fun _ h => h | exact fun _ h => List.mem_cons_of_mem _ h | exact fun _ h => List.mem_cons_of_mem _ (List.mem_cons_of_mem _ h)) (r_load1 Try.underlying3 rfl rfl (by first | exact .fact (by repeat (first | exact List.Mem.head _ | apply List.Mem.tail)) | exact .own (by repeat (first | exact List.Mem.head _ | apply List.Mem.tail)) (by decide) (fun _ => rfl)) (by first | assumption | rfl) (by rfl)).r ?_ | refine m_take 8 rfl (by kernel_rfl) (by decide) (by first | exact (List.Perm.refl _ : List.Perm _ ([] ++ _)) | exact (List.Perm.refl _ : List.Perm _ ([_] ++ _)) | exact (List.Perm.refl _ : List.Perm _ ([_, _] ++ _)) | exact (List.Perm.refl _ : List.Perm _ ([_, _, _] ++ _)) | exact (List.Perm.refl _ : List.Perm _ ([_, _, _, _] ++ _)) | exact (List.Perm.refl _ : List.Perm _ ([_, _, _, _, _] ++ _))) (by first | exact fun _ h => h | exact fun _ h => List.mem_cons_of_mem _ h | exact fun _ h => List.mem_cons_of_mem _ (List.mem_cons_of_mem _ h)) (r_loadf Try.underlying3 rfl rfl (by first | exact .fact (by repeat (first | exact List.Mem.head _ | apply List.Mem.tail)) | exact .own (by repeat (first | exact List.Mem.head _ | apply List.Mem.tail)) (by decide) (fun _ => rfl)) (by assumption) (by rfl)).r ?_
  refine m_takep 9 rfl (by kernel_rfl) (by decide) (p_move rfl) ?_
  first | refine m_takep 10 rfl (by kernel_rfl) (by decide) (p_add rfl rfl rfl rfl (by show _ ≤ (9223372036854775807 : Nat); omega)) ?_ | refine m_takep 10 rfl (by kernel_rfl) (by decide) (p_addi rfl rfl (by show (-9223372036854775808 : Int) ≤ _; omega) (by show _ ≤ ((9223372036854775807 : Nat) : Int); omega)) ?_
  refine m_takep 11 rfl (by kernel_rfl) (by decide) (p_move rfl) ?_
  refine m_takep 12 rfl (by kernel_rfl) (by decide) (p_build (cells := #[_, _, _, _]) inf_33 pl_33 rfl rfl) ?_
  refine m_run 13 rfl (by kernel_rfl) ?_
  refine l_buildSlice (by decide) Try.underlying22 inf_33 (by decide) (by decide) rfl rfl rfl rfl (fun b19 => ?_)
  refine l_nil ?_
  refine m_next _ (by first | exact (List.Perm.refl _ : List.Perm _ ([] ++ _)) | exact (List.Perm.refl _ : List.Perm _ ([_] ++ _)) | exact (List.Perm.refl _ : List.Perm _ ([_, _] ++ _)) | exact (List.Perm.refl _ : List.Perm _ ([_, _, _] ++ _)) | exact (List.Perm.refl _ : List.Perm _ ([_, _, _, _] ++ _)) | exact (List.Perm.refl _ : List.Perm _ ([_, _, _, _, _] ++ _))) (by first | exact fun _ h => h | exact fun _ h => List.mem_cons_of_mem _ h | exact fun _ h => List.mem_cons_of_mem _ (List.mem_cons_of_mem _ h)) ?_
  refine m_run 14 rfl (by kernel_rfl) ?_
  first | (refine l_append1 (Lay.tok (defs + κ) p) (by decide) Try.underlying22 inf_33 rfl (by decide) rfl rfl rfl rfl rfl rfl (by omega) (by omega) (fun A20 c20 hA20 => ?_)) | (refine l_perm (.cons _ (front1 _ _ _)) ?_; refine l_append1 (Lay.tok (defs + κ) p) (by decide) Try.underlying22 inf_33 rfl (by decide) rfl rfl rfl rfl rfl rfl (by omega) (by omega) (fun A20 c20 hA20 => ?_)) | (refine l_perm (.cons _ (front2 _ _ _ _)) ?_; refine l_append1 (Lay.tok (defs + κ) p) (by decide) Try.underlying22 inf_33 rfl (by decide) rfl rfl rfl rfl rfl rfl (by omega) (by omega) (fun A20 c20 hA20 => ?_))
  refine l_nil ?_
  refine m_late rfl ?_
  refine m_takep 15 rfl (by kernel_rfl) (by decide) (p_nilp rfl) ?_
  first | refine m_takep 16 rfl (by kernel_rfl) (by decide) (p_faddr (i := 0) 0 Try.underlying41 rfl inf_22 (by decide) rfl rfl) ?_ | refine m_takep 16 rfl (by kernel_rfl) (by decide) (p_faddro (i := 0) 0 Try.underlying41 rfl inf_22 (by decide) rfl rfl) ?_
  refine m_run 17 rfl (by kernel_rfl) ?_
  first | (refine l_store inf_22 rfl rfl rfl rfl (by first | decide | exact Nat.le_of_ble_eq_true rfl | (simp; done) | omega | (simp only [Nat.mul_one]; assumption)) ?_) | (refine l_perm (front1 _ _ _) ?_; refine l_store inf_22 rfl rfl rfl rfl (by first | decide | exact Nat.le_of_ble_eq_true rfl | (simp; done) | omega | (simp only [Nat.mul_one]; assumption)) ?_) | (refine l_perm (front2 _ _ _ _) ?_; refine l_store inf_22 rfl rfl rfl rfl (by first | decide | exact Nat.le_of_ble_eq_true rfl | (simp; done) | omega | (simp only [Nat.mul_one]; assumption)) ?_) | (refine l_perm (front3 _ _ _ _ _) ?_; refine l_store inf_22 rfl rfl rfl rfl (by first | decide | exact Nat.le_of_ble_eq_true rfl | (simp; done) | omega | (simp only [Nat.mul_one]; assumption)) ?_) | (refine l_perm (front4 _ _ _ _ _ _) ?_; refine l_store inf_22 rfl rfl rfl rfl (by first | decide | exact Nat.le_of_ble_eq_true rfl | (simp; done) | omega | (simp only [Nat.mul_one]; assumption)) ?_)
  refine l_nil ?_
  refine m_late rfl ?_
  refine m_done (by kernel_rfl) ?_
  refine c_ret0 rfl (fun w hs => ?_)
  exact ⟨(A20, c20), ρ, rfl, hs⟩
end Go.Proofs.Ytejhgbnpmelgcaa
