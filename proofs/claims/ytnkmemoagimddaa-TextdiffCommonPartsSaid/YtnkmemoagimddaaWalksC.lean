/- The walks of textdiff, third part; conditions: lengths. -/
import Derived.Test.YtnkmemoagimddaaWalksB
namespace Go.Proofs.Ytnkmemoagimddaa
open Go Go.Fx Go.Proofs

def natF (x : Nat) : List Value := [.int .i64 (x : Int)]
theorem costs_flat (F : List Nat) : costs F = F.flatMap natF := by
  induction F with
  | nil => rfl
  | cons x F ih => simp only [costs, List.map_cons, List.flatMap_cons, natF] at ih ⊢; rw [ih]; rfl
theorem costs_at {F : List Nat} {k y : Nat} (h : F[k]? = some y) : (costs F)[k * 1]? = some (.int .i64 (y : Int)) := by simp [costs, h]
theorem call_21 : Callable Try.prog 21 := ⟨_, Try.func21, by kernel_rfl, rfl⟩
theorem distance_ok (a b : List UInt8) (hal : a.length ≤ 1000) (hbl : b.length ≤ 1000) (w : World) :
    Calls Try.prog 12 #[str a, str b] w (Ret fun v w' => v = .int .i64 (Td.D a b : Int) ∧ Ext [] w w') := by
  refine calls_fx (l := [str a, str b]) Try.func12 rfl Try.ntmps12 (Nat.le_of_ble_eq_true rfl) (St.start w) ?_
  refine c_seq ?_
  refine c_reg ?_
  refine l_q (by decide) (p_assign (v := .int .i64 ((0 : Nat) : Int)) rfl).q ?_
  refine l_nil ?_
  refine c_seq ?_
  refine c_reg ?_
  refine l_q (by decide) (p_move rfl).q ?_
  refine l_q (by decide) (p_move rfl).q ?_
  refine l_call (X := Nat × Nat) (fun x => .pointer (some ⟨x.1, 0, none⟩)) (fun x => Tab x.1 x.2 a b (Td.full a b)) (by decide) call_21 rfl (fun w hs => of_ok a b hal hbl w) (fun x => ?_)
  refine l_q (by decide) (q_call call_22 rfl (fun w hs => at_ok x.1 x.2 a b (Td.full a b) 0 0 _ (by omega) (by omega) hbl (Td.full_at a b 0 0 (Nat.zero_le _) (Nat.zero_le _)) w (hs.facts _ (by repeat (first | exact List.Mem.head _ | apply List.Mem.tail))).1)) ?_
  refine l_q (by decide) (p_assign rfl).q ?_
  refine l_nil ?_
  refine c_ret ?_
  refine c_ret1 rfl rfl (fun w hs => ?_)
  exact ⟨rfl, hs.ext⟩

theorem table_ok (a b : List UInt8) (hal : a.length ≤ 1000) (hbl : b.length ≤ 1000) (w : World) :
    Calls Try.prog 23 #[str a, str b] w (Ret fun v w' => ∃ x : Nat, v = .slice (some ⟨x, 0, none⟩) (Td.full a b).length ((a.length + 1) * (b.length + 1)) ∧ Sl 1 natF (some ⟨x, 0, none⟩) (Td.full a b) w' ∧ Dep w.heap.size w'.heap.size (Sl 1 natF (some ⟨x, 0, none⟩) (Td.full a b)) ∧ Ext [] w w') := by
  have hN : (a.length + 1) * (b.length + 1) ≤ 1001 * 1001 := Nat.mul_le_mul (by omega) (by omega)
  refine calls_fx (l := [str a, str b]) Try.func23 rfl Try.ntmps23 (Nat.le_of_ble_eq_true rfl) (St.start w) ?_
  refine c_seq ?_
  refine c_reg ?_
  refine l_q (by decide) (p_assign rfl).q ?_
  refine l_nil ?_
  refine c_seq ?_
  refine c_reg ?_
  refine l_q (by decide) (p_move rfl).q ?_
  refine l_q (by decide) (p_len_str Try.underlying9 rfl).q ?_
  first | refine l_q (by decide) (p_add (j := 1) rfl rfl rfl rfl (by show _ ≤ (9223372036854775807 : Nat); omega)).q ?_ | refine l_q (by decide) (p_addi rfl rfl (by show (-9223372036854775808 : Int) ≤ _; omega) (by show _ ≤ ((9223372036854775807 : Nat) : Int); omega)).q ?_
  refine l_q (by decide) (p_assign rfl).q ?_
  refine l_nil ?_
  refine c_seq ?_
  refine c_reg ?_
  refine l_q (by decide) (p_move rfl).q ?_
  refine l_q (by decide) (p_len_str Try.underlying9 rfl).q ?_
  first | refine l_q (by decide) (p_add (j := 1) rfl rfl rfl rfl (by show _ ≤ (9223372036854775807 : Nat); omega)).q ?_ | refine l_q (by decide) (p_addi rfl rfl (by show (-9223372036854775808 : Int) ≤ _; omega) (by show _ ≤ ((9223372036854775807 : Nat) : Int); omega)).q ?_
  refine l_q (by decide) (p_move rfl).q ?_
  refine l_q (by decide) (p_mul rfl rfl rfl rfl (by show _ ≤ (9223372036854775807 : Nat); omega)).q ?_
  refine l_make (by decide) Try.underlying41 inf_3 rfl rfl rfl rfl rfl rfl (by omega) (by omega) (fun b17 => ?_)
  refine l_q (by decide) (p_assign rfl).q ?_
  refine l_nil ?_
  refine c_seq ?_
  refine c_seq ?_
  refine c_reg ?_
  refine l_q (by decide) (p_move rfl).q ?_
  refine l_q (by decide) (p_len_str Try.underlying9 rfl).q ?_
  refine l_q (by decide) (p_assign rfl).q ?_
  refine l_nil ?_
  refine c_block ?_
  refine c_loop (S := Nat) (fun s => s ≤ a.length + 1) (fun s => a.length + 1 - s) (fun s => [(0, str a), (1, str b), (5, .int .i64 ((b.length + 1 : Nat) : Int)), (6, .slice (some ⟨b17, 0, none⟩) ((a.length + 1) * (b.length + 1)) ((a.length + 1) * (b.length + 1))), (7, .int .i64 ((a.length : Int) - (s : Int)))]) (fun s => [iCells b17 3 (costs (Td.tab a b ((List.range (s * (b.length + 1))).map (Td.pnt a.length b.length))))]) (fun s => []) (0) ?_ ?_ ?_ ?_ ?_
  · show (0) ≤ a.length + 1
    exact Nat.zero_le _
  · exact ⟨rfl, rfl, rfl, rfl, by show some _ = some _; congr 2, trivial⟩
  · exact by rw [Nat.zero_mul]; rw [show (List.range 0).map (Td.pnt a.length b.length) = [] from rfl, costs_nil]
  · exact fun _ h => absurd h List.not_mem_nil
  rintro p hinv
  have hinv : p ≤ a.length + 1 := hinv
  have hp := hinv
  show Cont _ _ _ _ [(0, str a), (1, str b), (5, .int .i64 ((b.length + 1 : Nat) : Int)), (6, .slice (some ⟨b17, 0, none⟩) ((a.length + 1) * (b.length + 1)) ((a.length + 1) * (b.length + 1))), (7, .int .i64 ((a.length : Int) - (p : Int)))] ([iCells b17 3 (costs (Td.tab a b ((List.range (p * (b.length + 1))).map (Td.pnt a.length b.length))))]) []
  refine c_seq ?_
  refine c_seq ?_
  refine c_reg ?_
  refine l_q (by decide) (p_move rfl).q ?_
  first | refine l_q (by decide) (p_geq (j := 0) rfl rfl rfl rfl).q ?_ | refine l_q (by decide) (p_geqi rfl rfl).q ?_
  refine l_nil ?_
  first | refine c_dec rfl (fun h21 => ?_) (fun h21 => ?_) | refine c_cond rfl (fun h21 => ?_) (fun h21 => ?_)
  · skip
    have h21 : (a.length : Int) - (p : Int) ≥ 0 := h21
    obtain ⟨i, hi⟩ : ∃ i, i + p = a.length := ⟨a.length - p, by omega⟩
    have hmul := Nat.mul_le_mul_right (b.length + 1) (show i ≤ a.length by omega)
    have hmul2 : (i + 1) * (b.length + 1) = i * (b.length + 1) + (b.length + 1) := Nat.succ_mul _ _
    have hmul3 : (a.length + 1) * (b.length + 1) = a.length * (b.length + 1) + (b.length + 1) := Nat.succ_mul _ _
    refine c_skip ?_
    refine c_seq ?_
    refine c_block ?_
    refine c_seq ?_
    refine c_reg ?_
    refine l_q (by decide) (p_move rfl).q ?_
    refine l_q (by decide) (p_len_str Try.underlying9 rfl).q ?_
    refine l_q (by decide) (p_assign rfl).q ?_
    refine l_nil ?_
    refine c_block ?_
    refine c_loop (S := Nat) (fun s => s ≤ b.length + 1) (fun s => b.length + 1 - s) (fun s => [(0, str a), (1, str b), (5, .int .i64 ((b.length + 1 : Nat) : Int)), (6, .slice (some ⟨b17, 0, none⟩) ((a.length + 1) * (b.length + 1)) ((a.length + 1) * (b.length + 1))), (7, .int .i64 ((a.length : Int) - (p : Int))), (8, .int .i64 ((b.length : Int) - (s : Int)))]) (fun s => [iCells b17 3 (costs (Td.tab a b ((List.range (p * (b.length + 1) + s)).map (Td.pnt a.length b.length))))]) (fun s => []) (0) ?_ ?_ ?_ ?_ ?_
    · show (0) ≤ b.length + 1
      exact Nat.zero_le _
    · exact ⟨rfl, rfl, rfl, rfl, rfl, by show some _ = some _; congr 2, trivial⟩
    · exact .refl _
    · exact fun _ h => absurd h List.not_mem_nil
    rintro q hinv
    have hinv : q ≤ b.length + 1 := hinv
    have hq := hinv
    show Cont _ _ _ _ [(0, str a), (1, str b), (5, .int .i64 ((b.length + 1 : Nat) : Int)), (6, .slice (some ⟨b17, 0, none⟩) ((a.length + 1) * (b.length + 1)) ((a.length + 1) * (b.length + 1))), (7, .int .i64 ((a.length : Int) - (p : Int))), (8, .int .i64 ((b.length : Int) - (q : Int)))] ([iCells b17 3 (costs (Td.tab a b ((List.range (p * (b.length + 1) + q)).map (Td.pnt a.length b.length))))]) []
    refine c_seq ?_
    refine c_seq ?_
    refine c_reg ?_
    refine l_q (by decide) (p_move rfl).q ?_
    first | refine l_q (by decide) (p_geq (j := 0) rfl rfl rfl rfl).q ?_ | refine l_q (by decide) (p_geqi rfl rfl).q ?_
    refine l_nil ?_
    first | refine c_dec rfl (fun h27 => ?_) (fun h27 => ?_) | refine c_cond rfl (fun h27 => ?_) (fun h27 => ?_)
    · skip
      have h27 : (b.length : Int) - (q : Int) ≥ 0 := h27
      obtain ⟨j, hj⟩ : ∃ j, j + q = b.length := ⟨b.length - q, by omega⟩
      rw [show ((a.length : Int) - (p : Int)) = ((i : Nat) : Int) by omega, show ((b.length : Int) - (q : Int)) = ((j : Nat) : Int) by omega]
      have hl := Td.length_tab a b ((List.range (p * (b.length + 1) + q)).map (Td.pnt a.length b.length))
      have hle := Td.tab_le a b ((List.range (p * (b.length + 1) + q)).map (Td.pnt a.length b.length))
      have hpq : p * (b.length + 1) ≤ a.length * (b.length + 1) := Nat.mul_le_mul_right _ (by omega)
      rw [List.length_map, List.length_range] at hle
      obtain ⟨F, hF⟩ : ∃ F, F = Td.tab a b ((List.range (p * (b.length + 1) + q)).map (Td.pnt a.length b.length)) := ⟨_, rfl⟩
      rw [← hF] at hl hle
      rw [← hF]
      have hkc : i * (b.length + 1) + j < (costs F).length := by rw [costs, List.length_map, hl]; omega
      have hpnt : Td.pnt a.length b.length (p * (b.length + 1) + q) = (i, j) := by
        have e1 : (p * (b.length + 1) + q) / (b.length + 1) = p := by rw [Nat.mul_comm, Nat.mul_add_div (by omega), Nat.div_eq_of_lt (by omega)]; rfl
        have e2 : (p * (b.length + 1) + q) % (b.length + 1) = q := by rw [Nat.mul_comm, Nat.mul_add_mod, Nat.mod_eq_of_lt (by omega)]
        unfold Td.pnt; rw [e1, e2, show a.length - p = i by omega, show b.length - q = j by omega]
      refine c_skip ?_
      refine c_seq ?_
      refine c_meetn (S := Unit) (fun s => True) (fun s => [(0, str a), (1, str b), (5, .int .i64 ((b.length + 1 : Nat) : Int)), (6, .slice (some ⟨b17, 0, none⟩) ((a.length + 1) * (b.length + 1)) ((a.length + 1) * (b.length + 1))), (7, .int .i64 (i : Int)), (8, .int .i64 (j : Int))]) (fun s => [iCells b17 3 (costs (Td.step a b F (i, j)))]) (fun s => []) ?_ ?_
      · skip
        refine c_block ?_
        refine c_block ?_
        refine c_seq ?_
        refine c_reg ?_
        refine l_q (by decide) (p_move rfl).q ?_
        refine l_q (by decide) (p_move rfl).q ?_
        refine l_q (by decide) (p_len_str Try.underlying9 rfl).q ?_
        first | refine l_q (by decide) (p_eql rfl rfl rfl rfl).q ?_ | refine l_q (by decide) (p_eqli rfl rfl).q ?_
        refine l_q (by decide) (p_assign rfl).q ?_
        refine l_nil ?_
        first | refine c_dec rfl (fun h57 => ?_) (fun h57 => ?_) | refine c_cond rfl (fun h57 => ?_) (fun h57 => ?_)
        · skip
          refine c_reg ?_
          refine l_q (by decide) (p_move rfl).q ?_
          refine l_q (by decide) (p_move rfl).q ?_
          refine l_q (by decide) (p_move rfl).q ?_
          refine l_q (by decide) (p_mul rfl rfl rfl rfl (by show _ ≤ (9223372036854775807 : Nat); omega)).q ?_
          refine l_q (by decide) (p_move rfl).q ?_
          first | refine l_q (by decide) (p_add rfl rfl rfl rfl (by show _ ≤ (9223372036854775807 : Nat); omega)).q ?_ | refine l_q (by decide) (p_addi rfl rfl (by show (-9223372036854775808 : Int) ≤ _; omega) (by show _ ≤ ((9223372036854775807 : Nat) : Int); omega)).q ?_
          refine l_q (by decide) (p_move rfl).q ?_
          refine l_q (by decide) (p_len_str Try.underlying9 rfl).q ?_
          refine l_q (by decide) (p_move rfl).q ?_
          first | refine l_q (by decide) (p_sub rfl rfl rfl rfl (by omega) (by show _ ≤ (9223372036854775807 : Nat); omega)).q ?_ | refine l_q (by decide) (p_subi rfl rfl (by show (-9223372036854775808 : Int) ≤ _; omega) (by show _ ≤ ((9223372036854775807 : Nat) : Int); omega)).q ?_
          first | refine l_q (by decide) (r_index Try.underlying41 inf_3 rfl rfl rfl (by first | exact .fact (by repeat (first | exact List.Mem.head _ | apply List.Mem.tail)) | exact .own (by repeat (first | exact List.Mem.head _ | apply List.Mem.tail)) (by decide) (fun _ => rfl)) rfl (by omega)).q ?_ | refine l_q (by decide) (r_index Try.underlying41 inf_3 rfl rfl rfl (by first | exact .fact (by repeat (first | exact List.Mem.head _ | apply List.Mem.tail)) | exact .own (by repeat (first | exact List.Mem.head _ | apply List.Mem.tail)) (by decide) (fun _ => rfl)) rfl (by decide)).q ?_ | refine l_q (by decide) (p_indexo Try.underlying41 inf_3 rfl rfl rfl (by omega)).q ?_
          first | (refine l_store inf_3 rfl rfl rfl rfl (by first | decide | exact Nat.le_of_ble_eq_true rfl | (simp; done) | omega | (simp only [Nat.mul_one]; assumption)) ?_) | (refine l_perm (front1 _ _ _) ?_; refine l_store inf_3 rfl rfl rfl rfl (by first | decide | exact Nat.le_of_ble_eq_true rfl | (simp; done) | omega | (simp only [Nat.mul_one]; assumption)) ?_) | (refine l_perm (front2 _ _ _ _) ?_; refine l_store inf_3 rfl rfl rfl rfl (by first | decide | exact Nat.le_of_ble_eq_true rfl | (simp; done) | omega | (simp only [Nat.mul_one]; assumption)) ?_) | (refine l_perm (front3 _ _ _ _ _) ?_; refine l_store inf_3 rfl rfl rfl rfl (by first | decide | exact Nat.le_of_ble_eq_true rfl | (simp; done) | omega | (simp only [Nat.mul_one]; assumption)) ?_) | (refine l_perm (front4 _ _ _ _ _ _) ?_; refine l_store inf_3 rfl rfl rfl rfl (by first | decide | exact Nat.le_of_ble_eq_true rfl | (simp; done) | omega | (simp only [Nat.mul_one]; assumption)) ?_)
          refine l_nil ?_
          refine c_join (()) ?inv ?sub ?perm ?facts
          case sub => exact ⟨rfl, rfl, rfl, rfl, rfl, rfl, trivial⟩
          case perm =>
            rw [Nat.mul_one, costs_set]
            unfold Td.step
            rw [show Td.val a b F (i, j) = _ from by unfold Td.val; simp only; rw [if_pos h57]]
          case facts => exact fun _ h => absurd h List.not_mem_nil
          case inv =>
            trivial
        · skip
          refine c_seq ?_
          refine c_reg ?_
          refine l_q (by decide) (p_move rfl).q ?_
          refine l_q (by decide) (p_move rfl).q ?_
          refine l_q (by decide) (p_len_str Try.underlying9 rfl).q ?_
          first | refine l_q (by decide) (p_eql rfl rfl rfl rfl).q ?_ | refine l_q (by decide) (p_eqli rfl rfl).q ?_
          refine l_q (by decide) (p_assign rfl).q ?_
          refine l_nil ?_
          first | refine c_dec rfl (fun h73 => ?_) (fun h73 => ?_) | refine c_cond rfl (fun h73 => ?_) (fun h73 => ?_)
          · skip
            refine c_reg ?_
            refine l_q (by decide) (p_move rfl).q ?_
            refine l_q (by decide) (p_move rfl).q ?_
            refine l_q (by decide) (p_move rfl).q ?_
            refine l_q (by decide) (p_mul rfl rfl rfl rfl (by show _ ≤ (9223372036854775807 : Nat); omega)).q ?_
            refine l_q (by decide) (p_move rfl).q ?_
            first | refine l_q (by decide) (p_add rfl rfl rfl rfl (by show _ ≤ (9223372036854775807 : Nat); omega)).q ?_ | refine l_q (by decide) (p_addi rfl rfl (by show (-9223372036854775808 : Int) ≤ _; omega) (by show _ ≤ ((9223372036854775807 : Nat) : Int); omega)).q ?_
            refine l_q (by decide) (p_move rfl).q ?_
            refine l_q (by decide) (p_len_str Try.underlying9 rfl).q ?_
            refine l_q (by decide) (p_move rfl).q ?_
            first | refine l_q (by decide) (p_sub rfl rfl rfl rfl (by omega) (by show _ ≤ (9223372036854775807 : Nat); omega)).q ?_ | refine l_q (by decide) (p_subi rfl rfl (by show (-9223372036854775808 : Int) ≤ _; omega) (by show _ ≤ ((9223372036854775807 : Nat) : Int); omega)).q ?_
            first | refine l_q (by decide) (r_index Try.underlying41 inf_3 rfl rfl rfl (by first | exact .fact (by repeat (first | exact List.Mem.head _ | apply List.Mem.tail)) | exact .own (by repeat (first | exact List.Mem.head _ | apply List.Mem.tail)) (by decide) (fun _ => rfl)) rfl (by omega)).q ?_ | refine l_q (by decide) (r_index Try.underlying41 inf_3 rfl rfl rfl (by first | exact .fact (by repeat (first | exact List.Mem.head _ | apply List.Mem.tail)) | exact .own (by repeat (first | exact List.Mem.head _ | apply List.Mem.tail)) (by decide) (fun _ => rfl)) rfl (by decide)).q ?_ | refine l_q (by decide) (p_indexo Try.underlying41 inf_3 rfl rfl rfl (by omega)).q ?_
            first | (refine l_store inf_3 rfl rfl rfl rfl (by first | decide | exact Nat.le_of_ble_eq_true rfl | (simp; done) | omega | (simp only [Nat.mul_one]; assumption)) ?_) | (refine l_perm (front1 _ _ _) ?_; refine l_store inf_3 rfl rfl rfl rfl (by first | decide | exact Nat.le_of_ble_eq_true rfl | (simp; done) | omega | (simp only [Nat.mul_one]; assumption)) ?_) | (refine l_perm (front2 _ _ _ _) ?_; refine l_store inf_3 rfl rfl rfl rfl (by first | decide | exact Nat.le_of_ble_eq_true rfl | (simp; done) | omega | (simp only [Nat.mul_one]; assumption)) ?_) | (refine l_perm (front3 _ _ _ _ _) ?_; refine l_store inf_3 rfl rfl rfl rfl (by first | decide | exact Nat.le_of_ble_eq_true rfl | (simp; done) | omega | (simp only [Nat.mul_one]; assumption)) ?_) | (refine l_perm (front4 _ _ _ _ _ _) ?_; refine l_store inf_3 rfl rfl rfl rfl (by first | decide | exact Nat.le_of_ble_eq_true rfl | (simp; done) | omega | (simp only [Nat.mul_one]; assumption)) ?_)
            refine l_nil ?_
            refine c_join (()) ?inv ?sub ?perm ?facts
            case sub => exact ⟨rfl, rfl, rfl, rfl, rfl, rfl, trivial⟩
            case perm =>
              rw [Nat.mul_one, costs_set]
              unfold Td.step
              rw [show Td.val a b F (i, j) = _ from by unfold Td.val; simp only; rw [if_neg h57, if_pos h73]]
            case facts => exact fun _ h => absurd h List.not_mem_nil
            case inv =>
              trivial
          · skip
            have hmul4 := Nat.mul_le_mul_right (b.length + 1) (show i + 1 ≤ a.length by omega)
            obtain ⟨u, hu⟩ : ∃ u, a[i]? = some u := ⟨_, List.getElem?_eq_getElem (by omega)⟩
            obtain ⟨u2, hu2⟩ : ∃ u, b[j]? = some u := ⟨_, List.getElem?_eq_getElem (by omega)⟩
            refine c_seq ?_
            refine c_draw mixed (by decide +kernel) ?_
            refine q_q (by decide) (p_move rfl).q ?_
            refine q_q (by decide) (p_move rfl).q ?_
            first | refine q_q (by decide) (p_index_str Try.underlying9 rfl rfl rfl (by assumption)).q ?_ | refine q_q (by decide) (p_index_str Try.underlying9 rfl rfl rfl (by simp; rfl)).q ?_
            refine q_q (by decide) (p_move rfl).q ?_
            refine q_q (by decide) (p_move rfl).q ?_
            first | refine q_q (by decide) (p_index_str Try.underlying9 rfl rfl rfl (by assumption)).q ?_ | refine q_q (by decide) (p_index_str Try.underlying9 rfl rfl rfl (by simp; rfl)).q ?_
            first | refine q_q (by decide) (p_eql rfl rfl rfl rfl).q ?_ | refine q_q (by decide) (p_eqli rfl rfl).q ?_
            refine q_q (by decide) (p_assign rfl).q ?_
            refine q_nil ?_
            first | refine c_dec rfl (fun h89 => ?_) (fun h89 => ?_) | refine c_cond rfl (fun h89 => ?_) (fun h89 => ?_)
            · skip
              obtain ⟨y, hy⟩ : ∃ y, F[(i + 1) * (b.length + 1) + (j + 1)]? = some y := ⟨_, List.getElem?_eq_getElem (by omega)⟩
              refine c_reg ?_
              refine l_q (by decide) (p_move rfl).q ?_
              refine l_q (by decide) (p_move rfl).q ?_
              refine l_q (by decide) (p_move rfl).q ?_
              refine l_q (by decide) (p_mul rfl rfl rfl rfl (by show _ ≤ (9223372036854775807 : Nat); omega)).q ?_
              refine l_q (by decide) (p_move rfl).q ?_
              first | refine l_q (by decide) (p_add rfl rfl rfl rfl (by show _ ≤ (9223372036854775807 : Nat); omega)).q ?_ | refine l_q (by decide) (p_addi rfl rfl (by show (-9223372036854775808 : Int) ≤ _; omega) (by show _ ≤ ((9223372036854775807 : Nat) : Int); omega)).q ?_
              refine l_q (by decide) (p_move rfl).q ?_
              refine l_q (by decide) (p_move rfl).q ?_
              first | refine l_q (by decide) (p_add (j := 1) rfl rfl rfl rfl (by show _ ≤ (9223372036854775807 : Nat); omega)).q ?_ | refine l_q (by decide) (p_addi rfl rfl (by show (-9223372036854775808 : Int) ≤ _; omega) (by show _ ≤ ((9223372036854775807 : Nat) : Int); omega)).q ?_
              refine l_q (by decide) (p_move rfl).q ?_
              refine l_q (by decide) (p_mul rfl rfl rfl rfl (by show _ ≤ (9223372036854775807 : Nat); omega)).q ?_
              refine l_q (by decide) (p_move rfl).q ?_
              first | refine l_q (by decide) (p_add rfl rfl rfl rfl (by show _ ≤ (9223372036854775807 : Nat); omega)).q ?_ | refine l_q (by decide) (p_addi rfl rfl (by show (-9223372036854775808 : Int) ≤ _; omega) (by show _ ≤ ((9223372036854775807 : Nat) : Int); omega)).q ?_
              first | refine l_q (by decide) (p_add (j := 1) rfl rfl rfl rfl (by show _ ≤ (9223372036854775807 : Nat); omega)).q ?_ | refine l_q (by decide) (p_addi rfl rfl (by show (-9223372036854775808 : Int) ≤ _; omega) (by show _ ≤ ((9223372036854775807 : Nat) : Int); omega)).q ?_
              first | refine l_q (by decide) (r_index Try.underlying41 inf_3 rfl rfl rfl (by first | exact .fact (by repeat (first | exact List.Mem.head _ | apply List.Mem.tail)) | exact .own (by repeat (first | exact List.Mem.head _ | apply List.Mem.tail)) (by decide) (fun _ => rfl)) rfl (by omega)).q ?_ | refine l_q (by decide) (r_index Try.underlying41 inf_3 rfl rfl rfl (by first | exact .fact (by repeat (first | exact List.Mem.head _ | apply List.Mem.tail)) | exact .own (by repeat (first | exact List.Mem.head _ | apply List.Mem.tail)) (by decide) (fun _ => rfl)) rfl (by decide)).q ?_ | refine l_q (by decide) (p_indexo Try.underlying41 inf_3 rfl rfl rfl (by omega)).q ?_
              refine l_q (by decide) (r_loado Try.underlying3 rfl rfl (by repeat (first | exact List.Mem.head _ | apply List.Mem.tail)) (costs_at hy)).q ?_
              first | refine l_q (by decide) (r_index Try.underlying41 inf_3 rfl rfl rfl (by first | exact .fact (by repeat (first | exact List.Mem.head _ | apply List.Mem.tail)) | exact .own (by repeat (first | exact List.Mem.head _ | apply List.Mem.tail)) (by decide) (fun _ => rfl)) rfl (by omega)).q ?_ | refine l_q (by decide) (r_index Try.underlying41 inf_3 rfl rfl rfl (by first | exact .fact (by repeat (first | exact List.Mem.head _ | apply List.Mem.tail)) | exact .own (by repeat (first | exact List.Mem.head _ | apply List.Mem.tail)) (by decide) (fun _ => rfl)) rfl (by decide)).q ?_ | refine l_q (by decide) (p_indexo Try.underlying41 inf_3 rfl rfl rfl (by omega)).q ?_
              first | (refine l_store inf_3 rfl rfl rfl rfl (by first | decide | exact Nat.le_of_ble_eq_true rfl | (simp; done) | omega | (simp only [Nat.mul_one]; assumption)) ?_) | (refine l_perm (front1 _ _ _) ?_; refine l_store inf_3 rfl rfl rfl rfl (by first | decide | exact Nat.le_of_ble_eq_true rfl | (simp; done) | omega | (simp only [Nat.mul_one]; assumption)) ?_) | (refine l_perm (front2 _ _ _ _) ?_; refine l_store inf_3 rfl rfl rfl rfl (by first | decide | exact Nat.le_of_ble_eq_true rfl | (simp; done) | omega | (simp only [Nat.mul_one]; assumption)) ?_) | (refine l_perm (front3 _ _ _ _ _) ?_; refine l_store inf_3 rfl rfl rfl rfl (by first | decide | exact Nat.le_of_ble_eq_true rfl | (simp; done) | omega | (simp only [Nat.mul_one]; assumption)) ?_) | (refine l_perm (front4 _ _ _ _ _ _) ?_; refine l_store inf_3 rfl rfl rfl rfl (by first | decide | exact Nat.le_of_ble_eq_true rfl | (simp; done) | omega | (simp only [Nat.mul_one]; assumption)) ?_)
              refine l_nil ?_
              refine c_join (()) ?inv ?sub ?perm ?facts
              case sub => exact ⟨rfl, rfl, rfl, rfl, rfl, rfl, trivial⟩
              case perm =>
                rw [Nat.mul_one, costs_set]
                unfold Td.step
                rw [show Td.val a b F (i, j) = _ from by unfold Td.val; simp only; rw [if_neg h57, if_neg h73, hu, hu2, if_pos (by rw [UInt8.toNat_inj.1 h89]), hy]]
                exact .refl _
              case facts => exact fun _ h => absurd h List.not_mem_nil
              case inv =>
                trivial
            · skip
              obtain ⟨y, hy⟩ : ∃ y, F[(i + 1) * (b.length + 1) + j]? = some y := ⟨_, List.getElem?_eq_getElem (by omega)⟩
              obtain ⟨z, hz⟩ : ∃ z, F[i * (b.length + 1) + (j + 1)]? = some z := ⟨_, List.getElem?_eq_getElem (by omega)⟩
              have hyle := hle y (List.mem_of_getElem? hy)
              have hzle := hle z (List.mem_of_getElem? hz)
              refine t_draw 27 mixed ?_
              refine t_take 0 rfl (by kernel_rfl) (by decide) (p_move rfl).r ?_
              refine t_take 1 rfl (by kernel_rfl) (by decide) (p_move rfl).r ?_
              refine t_take 2 rfl (by kernel_rfl) (by decide) (p_move rfl).r ?_
              refine t_take 3 rfl (by kernel_rfl) (by decide) (p_mul rfl rfl rfl rfl (by show _ ≤ (9223372036854775807 : Nat); omega)).r ?_
              refine t_take 4 rfl (by kernel_rfl) (by decide) (p_move rfl).r ?_
              first | refine t_take 5 rfl (by kernel_rfl) (by decide) (p_add rfl rfl rfl rfl (by show _ ≤ (9223372036854775807 : Nat); omega)).r ?_ | refine t_take 5 rfl (by kernel_rfl) (by decide) (p_addi rfl rfl (by show (-9223372036854775808 : Int) ≤ _; omega) (by show _ ≤ ((9223372036854775807 : Nat) : Int); omega)).r ?_
              refine t_take 6 rfl (by kernel_rfl) (by decide) (p_move rfl).r ?_
              refine t_take 7 rfl (by kernel_rfl) (by decide) (p_move rfl).r ?_
              first | refine t_take 8 rfl (by kernel_rfl) (by decide) (p_add (j := 1) rfl rfl rfl rfl (by show _ ≤ (9223372036854775807 : Nat); omega)).r ?_ | refine t_take 8 rfl (by kernel_rfl) (by decide) (p_addi rfl rfl (by show (-9223372036854775808 : Int) ≤ _; omega) (by show _ ≤ ((9223372036854775807 : Nat) : Int); omega)).r ?_
              refine t_take 9 rfl (by kernel_rfl) (by decide) (p_move rfl).r ?_
              refine t_take 10 rfl (by kernel_rfl) (by decide) (p_mul rfl rfl rfl rfl (by show _ ≤ (9223372036854775807 : Nat); omega)).r ?_
              refine t_take 11 rfl (by kernel_rfl) (by decide) (p_move rfl).r ?_
              first | refine t_take 12 rfl (by kernel_rfl) (by decide) (p_add rfl rfl rfl rfl (by show _ ≤ (9223372036854775807 : Nat); omega)).r ?_ | refine t_take 12 rfl (by kernel_rfl) (by decide) (p_addi rfl rfl (by show (-9223372036854775808 : Int) ≤ _; omega) (by show _ ≤ ((9223372036854775807 : Nat) : Int); omega)).r ?_
              first | refine t_take 13 rfl (by kernel_rfl) (by decide) (r_index Try.underlying41 inf_3 rfl rfl rfl (by first | exact .fact (by repeat (first | exact List.Mem.head _ | apply List.Mem.tail)) | exact .own (by repeat (first | exact List.Mem.head _ | apply List.Mem.tail)) (by decide) (fun _ => rfl)) rfl (by omega)).r ?_ | refine t_take 13 rfl (by kernel_rfl) (by decide) (r_index Try.underlying41 inf_3 rfl rfl rfl (by first | exact .fact (by repeat (first | exact List.Mem.head _ | apply List.Mem.tail)) | exact .own (by repeat (first | exact List.Mem.head _ | apply List.Mem.tail)) (by decide) (fun _ => rfl)) rfl (by decide)).r ?_ | refine t_take 13 rfl (by kernel_rfl) (by decide) (p_indexo Try.underlying41 inf_3 rfl rfl rfl (by omega)).r ?_
              refine t_take 14 rfl (by kernel_rfl) (by decide) (r_loado Try.underlying3 rfl rfl (by repeat (first | exact List.Mem.head _ | apply List.Mem.tail)) (costs_at hy)).r ?_
              refine t_take 15 rfl (by kernel_rfl) (by decide) (p_move rfl).r ?_
              refine t_take 16 rfl (by kernel_rfl) (by decide) (p_move rfl).r ?_
              refine t_take 17 rfl (by kernel_rfl) (by decide) (p_move rfl).r ?_
              refine t_take 18 rfl (by kernel_rfl) (by decide) (p_mul rfl rfl rfl rfl (by show _ ≤ (9223372036854775807 : Nat); omega)).r ?_
              refine t_take 19 rfl (by kernel_rfl) (by decide) (p_move rfl).r ?_
              first | refine t_take 20 rfl (by kernel_rfl) (by decide) (p_add rfl rfl rfl rfl (by show _ ≤ (9223372036854775807 : Nat); omega)).r ?_ | refine t_take 20 rfl (by kernel_rfl) (by decide) (p_addi rfl rfl (by show (-9223372036854775808 : Int) ≤ _; omega) (by show _ ≤ ((9223372036854775807 : Nat) : Int); omega)).r ?_
              first | refine t_take 21 rfl (by kernel_rfl) (by decide) (p_add (j := 1) rfl rfl rfl rfl (by show _ ≤ (9223372036854775807 : Nat); omega)).r ?_ | refine t_take 21 rfl (by kernel_rfl) (by decide) (p_addi rfl rfl (by show (-9223372036854775808 : Int) ≤ _; omega) (by show _ ≤ ((9223372036854775807 : Nat) : Int); omega)).r ?_
              first | refine t_take 22 rfl (by kernel_rfl) (by decide) (r_index Try.underlying41 inf_3 rfl rfl rfl (by first | exact .fact (by repeat (first | exact List.Mem.head _ | apply List.Mem.tail)) | exact .own (by repeat (first | exact List.Mem.head _ | apply List.Mem.tail)) (by decide) (fun _ => rfl)) rfl (by omega)).r ?_ | refine t_take 22 rfl (by kernel_rfl) (by decide) (r_index Try.underlying41 inf_3 rfl rfl rfl (by first | exact .fact (by repeat (first | exact List.Mem.head _ | apply List.Mem.tail)) | exact .own (by repeat (first | exact List.Mem.head _ | apply List.Mem.tail)) (by decide) (fun _ => rfl)) rfl (by decide)).r ?_ | refine t_take 22 rfl (by kernel_rfl) (by decide) (p_indexo Try.underlying41 inf_3 rfl rfl rfl (by omega)).r ?_
              refine t_take 23 rfl (by kernel_rfl) (by decide) (r_loado Try.underlying3 rfl rfl (by repeat (first | exact List.Mem.head _ | apply List.Mem.tail)) (costs_at hz)).r ?_
              first | refine t_take 24 rfl (by kernel_rfl) (by decide) (p_min rfl rfl rfl rfl).r ?_ | refine t_take 24 rfl (by kernel_rfl) (by decide) (p_mini rfl rfl).r ?_
              first | refine t_take 25 rfl (by kernel_rfl) (by decide) (p_add (i := 1) rfl rfl rfl rfl (by show _ ≤ (9223372036854775807 : Nat); omega)).r ?_ | refine t_take 25 rfl (by kernel_rfl) (by decide) (p_addi rfl rfl (by show (-9223372036854775808 : Int) ≤ _; omega) (by show _ ≤ ((9223372036854775807 : Nat) : Int); omega)).r ?_
              first | refine t_take 26 rfl (by kernel_rfl) (by decide) (r_index Try.underlying41 inf_3 rfl rfl rfl (by first | exact .fact (by repeat (first | exact List.Mem.head _ | apply List.Mem.tail)) | exact .own (by repeat (first | exact List.Mem.head _ | apply List.Mem.tail)) (by decide) (fun _ => rfl)) rfl (by omega)).r ?_ | refine t_take 26 rfl (by kernel_rfl) (by decide) (r_index Try.underlying41 inf_3 rfl rfl rfl (by first | exact .fact (by repeat (first | exact List.Mem.head _ | apply List.Mem.tail)) | exact .own (by repeat (first | exact List.Mem.head _ | apply List.Mem.tail)) (by decide) (fun _ => rfl)) rfl (by decide)).r ?_ | refine t_take 26 rfl (by kernel_rfl) (by decide) (p_indexo Try.underlying41 inf_3 rfl rfl rfl (by omega)).r ?_
              refine t_last rfl (by kernel_rfl) ?_
              first | (refine l_store inf_3 rfl rfl rfl rfl (by first | decide | exact Nat.le_of_ble_eq_true rfl | (simp; done) | omega | (simp only [Nat.mul_one]; assumption)) ?_) | (refine l_perm (front1 _ _ _) ?_; refine l_store inf_3 rfl rfl rfl rfl (by first | decide | exact Nat.le_of_ble_eq_true rfl | (simp; done) | omega | (simp only [Nat.mul_one]; assumption)) ?_) | (refine l_perm (front2 _ _ _ _) ?_; refine l_store inf_3 rfl rfl rfl rfl (by first | decide | exact Nat.le_of_ble_eq_true rfl | (simp; done) | omega | (simp only [Nat.mul_one]; assumption)) ?_) | (refine l_perm (front3 _ _ _ _ _) ?_; refine l_store inf_3 rfl rfl rfl rfl (by first | decide | exact Nat.le_of_ble_eq_true rfl | (simp; done) | omega | (simp only [Nat.mul_one]; assumption)) ?_) | (refine l_perm (front4 _ _ _ _ _ _) ?_; refine l_store inf_3 rfl rfl rfl rfl (by first | decide | exact Nat.le_of_ble_eq_true rfl | (simp; done) | omega | (simp only [Nat.mul_one]; assumption)) ?_)
              refine l_nil ?_
              refine c_join (()) ?inv ?sub ?perm ?facts
              case sub => exact ⟨rfl, rfl, rfl, rfl, rfl, rfl, trivial⟩
              case perm =>
                rw [Nat.mul_one, costs_set]
                unfold Td.step
                rw [show Td.val a b F (i, j) = _ from by unfold Td.val; simp only; rw [if_neg h57, if_neg h73, hu, hu2, if_neg (fun e => h89 (by rw [Option.some.inj e])), hy, hz]]
                exact .refl _
              case facts => exact fun _ h => absurd h List.not_mem_nil
              case inv =>
                trivial
      rintro uu hmeet
      show Cont _ _ _ _ [(0, str a), (1, str b), (5, .int .i64 ((b.length + 1 : Nat) : Int)), (6, .slice (some ⟨b17, 0, none⟩) ((a.length + 1) * (b.length + 1)) ((a.length + 1) * (b.length + 1))), (7, .int .i64 (i : Int)), (8, .int .i64 (j : Int))] ([iCells b17 3 (costs (Td.step a b F (i, j)))]) []
      refine c_reg ?_
      refine l_q (by decide) (p_move rfl).q ?_
      first | refine l_q (by decide) (p_sub (j := 1) rfl rfl rfl rfl (by omega) (by show _ ≤ (9223372036854775807 : Nat); omega)).q ?_ | refine l_q (by decide) (p_subi rfl rfl (by show (-9223372036854775808 : Int) ≤ _; omega) (by show _ ≤ ((9223372036854775807 : Nat) : Int); omega)).q ?_
      refine l_q (by decide) (p_assign rfl).q ?_
      refine l_nil ?_
      refine c_join ((q + 1)) ?_ ?_ ?_ ?_
      · show ((q + 1) ≤ b.length + 1) ∧ b.length + 1 - (q + 1) < b.length + 1 - q
        exact ⟨by omega, by omega⟩
      · exact ⟨rfl, rfl, rfl, rfl, by show some _ = some _; congr 2 <;> omega, by show some _ = some _; congr 2 <;> omega, trivial⟩
      · show List.Perm _ ([iCells b17 3 (costs (Td.tab a b ((List.range (p * (b.length + 1) + (q + 1))).map (Td.pnt a.length b.length))))])
        rw [show p * (b.length + 1) + (q + 1) = p * (b.length + 1) + q + 1 from rfl, List.range_succ, List.map_append, List.map_cons, List.map_nil, Td.tab_snoc, hF, hpnt]; first | done | exact .refl _
      · exact fun _ h => absurd h List.not_mem_nil
    · skip
      have h27 : ¬ (b.length : Int) - (q : Int) ≥ 0 := h27
      obtain rfl : q = b.length + 1 := by omega
      refine c_exit ?_
      refine c_here ?_
      refine c_reg ?_
      refine l_q (by decide) (p_move rfl).q ?_
      first | refine l_q (by decide) (p_sub (j := 1) rfl rfl rfl rfl (by omega) (by show _ ≤ (9223372036854775807 : Nat); omega)).q ?_ | refine l_q (by decide) (p_subi rfl rfl (by show (-9223372036854775808 : Int) ≤ _; omega) (by show _ ≤ ((9223372036854775807 : Nat) : Int); omega)).q ?_
      refine l_q (by decide) (p_assign rfl).q ?_
      refine l_nil ?_
      refine c_join ((p + 1)) ?_ ?_ ?_ ?_
      · show ((p + 1) ≤ a.length + 1) ∧ a.length + 1 - (p + 1) < a.length + 1 - p
        exact ⟨by omega, by omega⟩
      · exact ⟨rfl, rfl, rfl, rfl, by show some _ = some _; congr 2 <;> omega, trivial⟩
      · show List.Perm _ ([iCells b17 3 (costs (Td.tab a b ((List.range ((p + 1) * (b.length + 1))).map (Td.pnt a.length b.length))))])
        rw [show (p + 1) * (b.length + 1) = p * (b.length + 1) + (b.length + 1) from Nat.succ_mul _ _]; first | done | exact .refl _
      · exact fun _ h => absurd h List.not_mem_nil
  · skip
    have h21 : ¬ (a.length : Int) - (p : Int) ≥ 0 := h21
    obtain rfl : p = a.length + 1 := by omega
    refine c_exit ?_
    refine c_here ?_
    refine c_seq ?_
    refine c_reg ?_
    refine l_q (by decide) (p_move rfl).q ?_
    refine l_q (by decide) (p_assign rfl).q ?_
    refine l_nil ?_
    refine c_ret ?_
    refine c_ret1 rfl rfl (fun w hs => ?_)
    have h1 := hs.own _ (List.mem_cons_self ..)
    have k1 := h1.2.2 b17 (by simp [iCells])
    have hf : Sl 1 natF (some ⟨b17, 0, none⟩) (Td.full a b) w := cells_sl (fun _ => rfl) (by rw [← costs_flat]; exact h1.1)
    exact ⟨b17, by rw [Td.length_full], hf, Sl.dep (fun a ha => by injection ha with ha; subst ha; exact ⟨by simpa using k1.2, k1.1⟩), hs.ext⟩
end Go.Proofs.Ytnkmemoagimddaa
