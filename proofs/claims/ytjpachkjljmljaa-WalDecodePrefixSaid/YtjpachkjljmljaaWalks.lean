/- The walks of the write-ahead log, first part: words, checksums, records; conditions: lengths below 2 to the 32. -/
import Derived.Test.YtjpachkjljmljaaProg
import Derived.Test.YtjpachkjljmljaaFx
import Derived.Test.YtjpachkjljmljaaPlain
namespace Go.Proofs.Ytjpachkjljmljaa
open Go Go.Fx Go.Proofs
theorem mixed : Try.prog.follows .mixedOrders = true := by kernel_rfl
theorem inf_5 : InfoIs Try.prog 5 1 1 (.int .u8 0) := by unfold InfoIs; kernel_rfl
theorem call_21 : Callable Try.prog 21 := ⟨_, Try.func21, by kernel_rfl, rfl⟩
theorem call_22 : Callable Try.prog 22 := ⟨_, Try.func22, by kernel_rfl, rfl⟩
theorem call_23 : Callable Try.prog 23 := ⟨_, Try.func23, by kernel_rfl, rfl⟩
theorem call_24 : Callable Try.prog 24 := ⟨_, Try.func24, by kernel_rfl, rfl⟩
theorem call_27 : Callable Try.prog 27 := ⟨_, Try.func27, by kernel_rfl, rfl⟩
theorem call_28 : Callable Try.prog 28 := ⟨_, Try.func28, by kernel_rfl, rfl⟩
theorem word_ok (n : Nat) (hn : n < 4294967296) (w : World) :
    Calls Try.prog 27 #[.int .u32 (n : Int)] w (Ret fun v w' => v = str (Wal.little n) ∧ Ext [] w w') := by
  refine calls_fx (l := [.int .u32 (n : Int)]) Try.func27 rfl Try.ntmps27 (Nat.le_of_ble_eq_true rfl) (St.start w) ?_
  refine c_seq ?_
  refine c_reg ?_
  refine l_q (by decide) (p_assign (v := str []) rfl).q ?_
  refine l_nil ?_
  refine c_seq ?_
  refine c_reg ?_
  refine l_q (by decide) (p_move rfl).q ?_
  first | refine l_q (by decide) (p_convn Try.underlying52 Try.underlying5 rfl rfl (by show _ ≤ (255 : Nat); omega)).q ?_ | refine l_q (by decide) (p_convm Try.underlying52 Try.underlying5 rfl rfl rfl).q ?_
  refine l_q (by decide) (p_move rfl).q ?_
  refine l_q (by decide) (p_shr (j := 8) rfl rfl rfl rfl (by decide)).q ?_
  first | refine l_q (by decide) (p_convn Try.underlying52 Try.underlying5 rfl rfl (by show _ ≤ (255 : Nat); omega)).q ?_ | refine l_q (by decide) (p_convm Try.underlying52 Try.underlying5 rfl rfl rfl).q ?_
  refine l_q (by decide) (p_move rfl).q ?_
  refine l_q (by decide) (p_shr (j := 16) rfl rfl rfl rfl (by decide)).q ?_
  first | refine l_q (by decide) (p_convn Try.underlying52 Try.underlying5 rfl rfl (by show _ ≤ (255 : Nat); omega)).q ?_ | refine l_q (by decide) (p_convm Try.underlying52 Try.underlying5 rfl rfl rfl).q ?_
  refine l_q (by decide) (p_move rfl).q ?_
  refine l_q (by decide) (p_shr (j := 24) rfl rfl rfl rfl (by decide)).q ?_
  first | refine l_q (by decide) (p_convn Try.underlying52 Try.underlying5 rfl rfl (by show _ ≤ (255 : Nat); omega)).q ?_ | refine l_q (by decide) (p_convm Try.underlying52 Try.underlying5 rfl rfl rfl).q ?_
  refine l_buildSlice (by decide) Try.underlying34 inf_5 (by decide) (by decide) rfl rfl rfl rfl (fun b14 => ?_)
  refine l_q (by decide) (r_bytes (l := Wal.little n) Try.underlying34 Try.underlying9 Try.underlying5 rfl (by repeat (first | exact List.Mem.head _ | apply List.Mem.tail)) (by have h : ((n : Int) / 16777216) % 256 = (n : Int) / 16777216 := (by omega); simp [bytesV, Wal.little, top, catL, h, Value.cells]) rfl).q ?_
  refine l_q (by decide) (p_assign rfl).q ?_
  refine l_nil ?_
  refine c_ret ?_
  refine c_ret1 rfl rfl (fun w hs => ?_)
  exact ⟨rfl, hs.ext⟩

theorem little_ok (n : Nat) (hn : n < 4294967296) (w : World) :
    Calls Try.prog 23 #[.int .i64 (n : Int)] w (Ret fun v w' => v = str (Wal.little n) ∧ Ext [] w w') := by
  refine calls_fx (l := [.int .i64 (n : Int)]) Try.func23 rfl Try.ntmps23 (Nat.le_of_ble_eq_true rfl) (St.start w) ?_
  refine c_seq ?_
  refine c_reg ?_
  refine l_q (by decide) (p_assign (v := str []) rfl).q ?_
  refine l_nil ?_
  refine c_seq ?_
  refine c_reg ?_
  refine l_q (by decide) (p_move rfl).q ?_
  first | refine l_q (by decide) (p_convn Try.underlying3 Try.underlying5 rfl rfl (by show _ ≤ (255 : Nat); omega)).q ?_ | refine l_q (by decide) (p_convm Try.underlying3 Try.underlying5 rfl rfl rfl).q ?_
  refine l_q (by decide) (p_move rfl).q ?_
  refine l_q (by decide) (p_shr (j := 8) rfl rfl rfl rfl (by decide)).q ?_
  first | refine l_q (by decide) (p_convn Try.underlying3 Try.underlying5 rfl rfl (by show _ ≤ (255 : Nat); omega)).q ?_ | refine l_q (by decide) (p_convm Try.underlying3 Try.underlying5 rfl rfl rfl).q ?_
  refine l_q (by decide) (p_move rfl).q ?_
  refine l_q (by decide) (p_shr (j := 16) rfl rfl rfl rfl (by decide)).q ?_
  first | refine l_q (by decide) (p_convn Try.underlying3 Try.underlying5 rfl rfl (by show _ ≤ (255 : Nat); omega)).q ?_ | refine l_q (by decide) (p_convm Try.underlying3 Try.underlying5 rfl rfl rfl).q ?_
  refine l_q (by decide) (p_move rfl).q ?_
  refine l_q (by decide) (p_shr (j := 24) rfl rfl rfl rfl (by decide)).q ?_
  first | refine l_q (by decide) (p_convn Try.underlying3 Try.underlying5 rfl rfl (by show _ ≤ (255 : Nat); omega)).q ?_ | refine l_q (by decide) (p_convm Try.underlying3 Try.underlying5 rfl rfl rfl).q ?_
  refine l_buildSlice (by decide) Try.underlying34 inf_5 (by decide) (by decide) rfl rfl rfl rfl (fun b14 => ?_)
  refine l_q (by decide) (r_bytes (l := Wal.little n) Try.underlying34 Try.underlying9 Try.underlying5 rfl (by repeat (first | exact List.Mem.head _ | apply List.Mem.tail)) (by have h : ((n : Int) / 16777216) % 256 = (n : Int) / 16777216 := (by omega); simp [bytesV, Wal.little, top, catL, h, Value.cells]) rfl).q ?_
  refine l_q (by decide) (p_assign rfl).q ?_
  refine l_nil ?_
  refine c_ret ?_
  refine c_ret1 rfl rfl (fun w hs => ?_)
  exact ⟨rfl, hs.ext⟩

theorem length_ok (r : List UInt8) (hr : r.length < 4294967296) (w : World) :
    Calls Try.prog 21 #[str r] w (Ret fun v w' => v = str (Wal.little r.length) ∧ Ext [] w w') := by
  refine calls_fx (l := [str r]) Try.func21 rfl Try.ntmps21 (Nat.le_of_ble_eq_true rfl) (St.start w) ?_
  refine c_seq ?_
  refine c_reg ?_
  refine l_q (by decide) (p_assign (v := str []) rfl).q ?_
  refine l_nil ?_
  refine c_seq ?_
  refine c_reg ?_
  refine l_q (by decide) (p_move rfl).q ?_
  refine l_q (by decide) (p_len_str Try.underlying9 rfl).q ?_
  first | refine l_q (by decide) (p_convn Try.underlying3 Try.underlying52 rfl rfl (by show _ ≤ (4294967295 : Nat); omega)).q ?_ | refine l_q (by decide) (p_convm Try.underlying3 Try.underlying52 rfl rfl rfl).q ?_
  refine l_q (by decide) (q_call call_27 rfl (fun w hs => word_ok _ (by omega) w)) ?_
  refine l_q (by decide) (p_assign rfl).q ?_
  refine l_nil ?_
  refine c_ret ?_
  refine c_ret1 rfl rfl (fun w hs => ?_)
  exact ⟨rfl, hs.ext⟩

theorem add_ok (h : Nat) (h0 : h < 4294967296) (s : List UInt8) (hs0 : s.length < 9223372036854775807) (w : World) :
    Calls Try.prog 28 #[.int .u32 (h : Int), str s] w (Ret fun v w' => v = .int .u32 (Wal.hash h s : Int) ∧ Ext [] w w') := by
  refine calls_fx (l := [.int .u32 (h : Int), str s]) Try.func28 rfl Try.ntmps28 (Nat.le_of_ble_eq_true rfl) (St.start w) ?_
  refine c_seq ?_
  refine c_reg ?_
  refine l_q (by decide) (p_assign (v := .int .u32 ((0 : Nat) : Int)) rfl).q ?_
  refine l_nil ?_
  refine c_seq ?_
  refine c_seq ?_
  refine c_reg ?_
  refine l_q (by decide) (p_move rfl).q ?_
  refine l_sbytes (by decide) Try.underlying9 Try.underlying34 Try.underlying5 rfl (fun b8 c8 => ?_)
  refine l_q (by decide) (p_len_sl Try.underlying34 rfl).q ?_
  refine l_q (by decide) (p_move (v := .int .i64 ((0 : Nat) : Int)) rfl).q ?_
  refine l_nil ?_
  refine c_block ?_
  refine c_loop (S := Nat) (fun i => i ≤ s.length) (fun i => s.length - i) (fun i => [(0, .int .u32 (Wal.hash h (s.take i) : Int)), (8, .slice (some ⟨b8, 0, none⟩) s.length c8), (9, .int .i64 (s.length : Int)), (10, .int .i64 (i : Int))]) (fun i => []) (fun i => [Sl 1 byteF (some ⟨b8, 0, none⟩) s]) 0 ?_ ?_ ?_ ?_ ?_
  · exact (Nat.zero_le _)
  · exact ⟨rfl, rfl, rfl, rfl, trivial⟩
  · exact .refl _
  · simp
  intro i hi
  refine c_seq ?_
  refine c_reg ?_
  first | refine l_q (by decide) (p_lss rfl rfl rfl rfl).q ?_ | refine l_q (by decide) (p_lssi rfl rfl).q ?_
  refine l_nil ?_
  refine c_seq ?_
  first | refine c_dec rfl (fun h11 => ?_) (fun h11 => ?_) | refine c_cond rfl (fun h11 => ?_) (fun h11 => ?_)
  · skip
    obtain ⟨u, hu⟩ : ∃ u, s[i]? = some u := ⟨_, List.getElem?_eq_getElem h11⟩
    have hb := u.toNat_lt
    have hx := Wal.xor_lt _ _ (Wal.hash_lt (s.take i) h h0) u.toNat_lt
    have hh := Wal.hash_lt (s.take i) h h0
    refine c_skip ?_
    refine c_seq ?_
    refine c_block ?_
    refine c_seq ?_
    refine c_reg ?_
    first | refine l_q (by decide) (r_index Try.underlying34 inf_5 rfl rfl rfl (by first | exact .fact (by repeat (first | exact List.Mem.head _ | apply List.Mem.tail)) | exact .own (by repeat (first | exact List.Mem.head _ | apply List.Mem.tail)) (by decide) (fun _ => rfl)) rfl (by omega)).q ?_ | refine l_q (by decide) (p_indexo Try.underlying34 inf_5 rfl rfl rfl (by omega)).q ?_
    first | refine l_q (by decide) (r_loado Try.underlying5 rfl rfl (by repeat (first | exact List.Mem.head _ | apply List.Mem.tail)) (by rfl)).q ?_ | refine l_q (by decide) (r_load1 Try.underlying5 rfl rfl (by first | exact .fact (by repeat (first | exact List.Mem.head _ | apply List.Mem.tail)) | exact .own (by repeat (first | exact List.Mem.head _ | apply List.Mem.tail)) (by decide) (fun _ => rfl)) (by assumption) (by rfl)).q ?_ | refine l_q (by decide) (r_loadf Try.underlying5 rfl rfl (by first | exact .fact (by repeat (first | exact List.Mem.head _ | apply List.Mem.tail)) | exact .own (by repeat (first | exact List.Mem.head _ | apply List.Mem.tail)) (by decide) (fun _ => rfl)) (by assumption) (by rfl)).q ?_
    refine l_q (by decide) (p_assign rfl).q ?_
    refine l_nil ?_
    refine c_reg ?_
    refine l_q (by decide) (p_move rfl).q ?_
    refine l_q (by decide) (p_move rfl).q ?_
    first | refine l_q (by decide) (p_convn Try.underlying5 Try.underlying53 rfl rfl (by show _ ≤ (4294967295 : Nat); omega)).q ?_ | refine l_q (by decide) (p_convm Try.underlying5 Try.underlying53 rfl rfl rfl).q ?_
    refine l_q (by decide) (p_xor rfl rfl rfl rfl (by show _ ≤ (4294967295 : Nat); omega) (by show _ ≤ (4294967295 : Nat); omega)).q ?_
    refine l_q (by decide) (p_mulU (j := 16777619) rfl rfl rfl rfl rfl).q ?_
    refine l_q (by decide) (p_assign rfl).q ?_
    refine l_nil ?_
    refine c_reg ?_
    first | refine l_q (by decide) (p_add (j := 1) rfl rfl rfl rfl (by show _ ≤ (9223372036854775807 : Nat); omega)).q ?_ | refine l_q (by decide) (p_addi rfl rfl (by show (-9223372036854775808 : Int) ≤ _; omega) (by show _ ≤ ((9223372036854775807 : Nat) : Int); omega)).q ?_
    refine l_q (by decide) (p_move rfl).q ?_
    refine l_nil ?_
    refine c_join (i + 1) ?_ ?_ ?_ ?_
    · exact ⟨by omega, by omega⟩
    · exact ⟨by rw [Wal.hash_take h s i u hu, Wal.stepH_def]; rfl, rfl, rfl, rfl, trivial⟩
    · exact .refl _
    · simp
  · skip
    refine c_exit ?_
    refine c_here ?_
    refine c_seq ?_
    refine c_reg ?_
    refine l_q (by decide) (p_move rfl).q ?_
    refine l_q (by decide) (p_assign rfl).q ?_
    refine l_nil ?_
    refine c_ret ?_
    refine c_ret1 rfl rfl (fun w hs => ?_)
    exact ⟨by rw [Wal.take_all s i hi h11], hs.ext⟩

theorem hash_ok (s : List UInt8) (hs0 : s.length < 9223372036854775807) (w : World) :
    Calls Try.prog 24 #[str s] w (Ret fun v w' => v = .int .i64 (Wal.hash 2166136261 s : Int) ∧ Ext [] w w') := by
  refine calls_fx (l := [str s]) Try.func24 rfl Try.ntmps24 (Nat.le_of_ble_eq_true rfl) (St.start w) ?_
  refine c_seq ?_
  refine c_reg ?_
  refine l_q (by decide) (p_assign (v := .int .i64 ((0 : Nat) : Int)) rfl).q ?_
  refine l_nil ?_
  refine c_seq ?_
  refine c_reg ?_
  refine l_q (by decide) (p_assign (v := .int .i64 ((2166136261 : Nat) : Int)) rfl).q ?_
  refine l_nil ?_
  refine c_seq ?_
  refine c_seq ?_
  refine c_reg ?_
  refine l_q (by decide) (p_assign (v := .int .i64 ((0 : Nat) : Int)) rfl).q ?_
  refine l_nil ?_
  refine c_block ?_
  refine c_loop (S := Nat) (fun i => i ≤ s.length) (fun i => s.length - i) (fun i => [(0, str s), (3, .int .i64 (Wal.hash 2166136261 (s.take i) : Int)), (4, .int .i64 (i : Int))]) (fun i => []) (fun i => []) 0 ?_ ?_ ?_ ?_ ?_
  · exact (Nat.zero_le _)
  · exact ⟨rfl, rfl, rfl, trivial⟩
  · exact .refl _
  · exact fun _ h => absurd h List.not_mem_nil
  intro i hi
  refine c_seq ?_
  refine c_seq ?_
  refine c_reg ?_
  refine l_q (by decide) (p_move rfl).q ?_
  refine l_q (by decide) (p_move rfl).q ?_
  refine l_q (by decide) (p_len_str Try.underlying9 rfl).q ?_
  first | refine l_q (by decide) (p_lss rfl rfl rfl rfl).q ?_ | refine l_q (by decide) (p_lssi rfl rfl).q ?_
  refine l_nil ?_
  first | refine c_dec rfl (fun h8 => ?_) (fun h8 => ?_) | refine c_cond rfl (fun h8 => ?_) (fun h8 => ?_)
  · skip
    obtain ⟨u, hu⟩ : ∃ u, s[i]? = some u := ⟨_, List.getElem?_eq_getElem h8⟩
    have hb := u.toNat_lt
    have hh := Wal.hash_lt (s.take i) 2166136261 (by decide)
    have hx := Wal.xor_lt _ _ hh u.toNat_lt
    refine c_skip ?_
    refine c_seq ?_
    refine c_block ?_
    refine c_reg ?_
    refine l_q (by decide) (p_move rfl).q ?_
    refine l_q (by decide) (p_move rfl).q ?_
    refine l_q (by decide) (p_move rfl).q ?_
    first | refine l_q (by decide) (p_index_str Try.underlying9 rfl rfl rfl (by assumption)).q ?_ | refine l_q (by decide) (p_index_str Try.underlying9 rfl rfl rfl (by simp; rfl)).q ?_
    refine l_q (by decide) (p_convn Try.underlying5 Try.underlying3 rfl rfl (by show _ ≤ (9223372036854775807 : Nat); omega)).q ?_
    refine l_q (by decide) (p_xor rfl rfl rfl rfl (by show _ ≤ (9223372036854775807 : Nat); omega) (by show _ ≤ (9223372036854775807 : Nat); omega)).q ?_
    refine l_q (by decide) (p_mul (j := 16777619) rfl rfl rfl rfl (by show _ ≤ (9223372036854775807 : Nat); omega)).q ?_
    refine l_q (by decide) (p_and (j := 4294967295) rfl rfl rfl rfl (by show _ ≤ (9223372036854775807 : Nat); omega) (by show _ ≤ (9223372036854775807 : Nat); omega)).q ?_
    refine l_q (by decide) (p_assign rfl).q ?_
    refine l_nil ?_
    refine c_reg ?_
    refine l_q (by decide) (p_move rfl).q ?_
    first | refine l_q (by decide) (p_add (j := 1) rfl rfl rfl rfl (by show _ ≤ (9223372036854775807 : Nat); omega)).q ?_ | refine l_q (by decide) (p_addi rfl rfl (by show (-9223372036854775808 : Int) ≤ _; omega) (by show _ ≤ ((9223372036854775807 : Nat) : Int); omega)).q ?_
    refine l_q (by decide) (p_assign rfl).q ?_
    refine l_nil ?_
    refine c_join (i + 1) ?_ ?_ ?_ ?_
    · exact ⟨by omega, by omega⟩
    · exact ⟨rfl, by rw [Wal.hash_take _ s i u hu, Wal.stepH_def, ← Wal.and_mod]; rfl, rfl, trivial⟩
    · exact .refl _
    · exact fun _ h => absurd h List.not_mem_nil
  · skip
    refine c_exit ?_
    refine c_here ?_
    refine c_seq ?_
    refine c_reg ?_
    refine l_q (by decide) (p_move rfl).q ?_
    refine l_q (by decide) (p_assign rfl).q ?_
    refine l_nil ?_
    refine c_ret ?_
    refine c_ret1 rfl rfl (fun w hs => ?_)
    exact ⟨by rw [Wal.take_all s i hi h8], hs.ext⟩

theorem number_ok (s : List UInt8) (hs0 : 4 ≤ s.length) (w : World) :
    Calls Try.prog 25 #[str s] w (Ret fun v w' => v = .int .u64 (Wal.num s : Int) ∧ Ext [] w w') := by
  obtain ⟨a, ha⟩ : ∃ u, s[0]? = some u := ⟨_, List.getElem?_eq_getElem (by omega)⟩
  have la := a.toNat_lt
  obtain ⟨b, hb⟩ : ∃ u, s[1]? = some u := ⟨_, List.getElem?_eq_getElem (by omega)⟩
  have lb := b.toNat_lt
  obtain ⟨c, hc⟩ : ∃ u, s[2]? = some u := ⟨_, List.getElem?_eq_getElem (by omega)⟩
  have lc := c.toNat_lt
  obtain ⟨d, hd⟩ : ∃ u, s[3]? = some u := ⟨_, List.getElem?_eq_getElem (by omega)⟩
  have ld := d.toNat_lt
  have o1 : a.toNat ||| b.toNat * 2 ^ 8 < 65536 := by rw [Wal.x1 _ _ la]; omega
  have o2 : (a.toNat ||| b.toNat * 2 ^ 8) ||| c.toNat * 2 ^ 16 < 16777216 := by rw [Wal.x2 _ _ o1]; omega
  refine calls_fx (l := [str s]) Try.func25 rfl Try.ntmps25 (Nat.le_of_ble_eq_true rfl) (St.start w) ?_
  refine c_seq ?_
  refine c_reg ?_
  refine l_q (by decide) (p_assign (v := .int .u64 ((0 : Nat) : Int)) rfl).q ?_
  refine l_nil ?_
  refine c_seq ?_
  refine c_draw mixed (by decide +kernel) ?_
  refine q_q (by decide) (p_move rfl).q ?_
  first | refine q_q (by decide) (p_index_str (j := 0) Try.underlying9 rfl rfl rfl (by assumption)).q ?_ | refine q_q (by decide) (p_index_str (j := 0) Try.underlying9 rfl rfl rfl (by simp; rfl)).q ?_
  first | refine q_q (by decide) (p_convn Try.underlying5 Try.underlying47 rfl rfl (by show _ ≤ (18446744073709551615 : Nat); omega)).q ?_ | refine q_q (by decide) (p_convm Try.underlying5 Try.underlying47 rfl rfl rfl).q ?_
  refine q_q (by decide) (p_move rfl).q ?_
  first | refine q_q (by decide) (p_index_str (j := 1) Try.underlying9 rfl rfl rfl (by assumption)).q ?_ | refine q_q (by decide) (p_index_str (j := 1) Try.underlying9 rfl rfl rfl (by simp; rfl)).q ?_
  first | refine q_q (by decide) (p_convn Try.underlying5 Try.underlying47 rfl rfl (by show _ ≤ (18446744073709551615 : Nat); omega)).q ?_ | refine q_q (by decide) (p_convm Try.underlying5 Try.underlying47 rfl rfl rfl).q ?_
  refine q_q (by decide) (p_shl (j := 8) rfl rfl rfl rfl (by decide) (by show _ ≤ (18446744073709551615 : Nat); omega)).q ?_
  skip
  refine q_q (by decide) (p_or rfl rfl rfl rfl (by show _ ≤ (18446744073709551615 : Nat); omega) (by show _ ≤ (18446744073709551615 : Nat); omega)).q ?_
  refine q_q (by decide) (p_move rfl).q ?_
  skip
  first | refine q_q (by decide) (p_index_str (j := 2) Try.underlying9 rfl rfl rfl (by assumption)).q ?_ | refine q_q (by decide) (p_index_str (j := 2) Try.underlying9 rfl rfl rfl (by simp; rfl)).q ?_
  first | refine q_q (by decide) (p_convn Try.underlying5 Try.underlying47 rfl rfl (by show _ ≤ (18446744073709551615 : Nat); omega)).q ?_ | refine q_q (by decide) (p_convm Try.underlying5 Try.underlying47 rfl rfl rfl).q ?_
  refine q_q (by decide) (p_shl (j := 16) rfl rfl rfl rfl (by decide) (by show _ ≤ (18446744073709551615 : Nat); omega)).q ?_
  refine q_q (by decide) (p_or rfl rfl rfl rfl (by show _ ≤ (18446744073709551615 : Nat); omega) (by show _ ≤ (18446744073709551615 : Nat); omega)).q ?_
  refine q_q (by decide) (p_move rfl).q ?_
  first | refine q_q (by decide) (p_index_str (j := 3) Try.underlying9 rfl rfl rfl (by assumption)).q ?_ | refine q_q (by decide) (p_index_str (j := 3) Try.underlying9 rfl rfl rfl (by simp; rfl)).q ?_
  first | refine q_q (by decide) (p_convn Try.underlying5 Try.underlying47 rfl rfl (by show _ ≤ (18446744073709551615 : Nat); omega)).q ?_ | refine q_q (by decide) (p_convm Try.underlying5 Try.underlying47 rfl rfl rfl).q ?_
  refine q_q (by decide) (p_shl (j := 24) rfl rfl rfl rfl (by decide) (by show _ ≤ (18446744073709551615 : Nat); omega)).q ?_
  refine q_q (by decide) (p_or rfl rfl rfl rfl (by show _ ≤ (18446744073709551615 : Nat); omega) (by show _ ≤ (18446744073709551615 : Nat); omega)).q ?_
  refine q_q (by decide) (p_assign rfl).q ?_
  refine q_nil ?_
  refine c_ret ?_
  refine c_ret1 rfl rfl (fun w hs => ?_)
  exact ⟨by rw [Wal.num_eq s a b c d ha hb hc hd, ← Wal.or4 _ _ _ _ a.toNat_lt b.toNat_lt c.toNat_lt], hs.ext⟩

theorem checksum_ok (r : List UInt8) (hr : r.length < 4294967296) (w : World) :
    Calls Try.prog 22 #[str r] w (Ret fun v w' => v = str (Wal.chk r) ∧ Ext [] w w') := by
  refine calls_fx (l := [str r]) Try.func22 rfl Try.ntmps22 (Nat.le_of_ble_eq_true rfl) (St.start w) ?_
  refine c_seq ?_
  refine c_reg ?_
  refine l_q (by decide) (p_assign (v := str []) rfl).q ?_
  refine l_nil ?_
  refine c_seq ?_
  refine c_reg ?_
  refine l_q (by decide) (p_move rfl).q ?_
  refine l_q (by decide) (q_call call_21 rfl (fun w hs => length_ok _ (by omega) w)) ?_
  refine l_q (by decide) (q_call call_28 rfl (fun w hs => add_ok 2166136261 (by decide) _ (by simp) w)) ?_
  refine l_q (by decide) (p_move rfl).q ?_
  refine l_q (by decide) (q_call call_28 rfl (fun w hs => add_ok _ (Wal.hash_lt _ _ (by decide)) _ (by omega) w)) ?_
  refine l_q (by decide) (p_assign rfl).q ?_
  refine l_nil ?_
  refine c_seq ?_
  refine c_reg ?_
  refine l_q (by decide) (p_move rfl).q ?_
  refine l_q (by decide) (q_call call_27 rfl (fun w hs => word_ok _ (Wal.hash_lt _ _ (Wal.hash_lt _ _ (by decide))) w)) ?_
  refine l_q (by decide) (p_assign rfl).q ?_
  refine l_nil ?_
  refine c_ret ?_
  refine c_ret1 rfl rfl (fun w hs => ?_)
  exact ⟨rfl, hs.ext⟩

theorem append_ok (g r : List UInt8) (hr : r.length < 4294967296) (hg : g.length < 140737488355328) (w : World) :
    Calls Try.prog 14 #[str g, str r] w (Ret fun v w' => v = str (g ++ Wal.rcd r) ∧ Ext [] w w') := by
  refine calls_fx (l := [str g, str r]) Try.func14 rfl Try.ntmps14 (Nat.le_of_ble_eq_true rfl) (St.start w) ?_
  refine c_seq ?_
  refine c_reg ?_
  refine l_q (by decide) (p_assign (v := str []) rfl).q ?_
  refine l_nil ?_
  refine c_seq ?_
  refine c_reg ?_
  refine l_q (by decide) (p_move rfl).q ?_
  refine l_q (by decide) (p_move rfl).q ?_
  refine l_q (by decide) (q_call call_21 rfl (fun w hs => length_ok _ (by omega) w)) ?_
  first | refine l_q (by decide) (p_cat rfl rfl (by omega)).q ?_ | refine l_q (by decide) (p_cat rfl rfl (by simp; omega)).q ?_
  refine l_q (by decide) (p_move rfl).q ?_
  refine l_q (by decide) (q_call call_22 rfl (fun w hs => checksum_ok _ (by omega) w)) ?_
  first | refine l_q (by decide) (p_cat rfl rfl (by omega)).q ?_ | refine l_q (by decide) (p_cat rfl rfl (by simp; omega)).q ?_
  refine l_q (by decide) (p_move rfl).q ?_
  first | refine l_q (by decide) (p_cat rfl rfl (by omega)).q ?_ | refine l_q (by decide) (p_cat rfl rfl (by simp; omega)).q ?_
  refine l_q (by decide) (p_assign rfl).q ?_
  refine l_nil ?_
  refine c_ret ?_
  refine c_ret1 rfl rfl (fun w hs => ?_)
  exact ⟨by simp [Wal.rcd], hs.ext⟩

theorem append2_ok (g r : List UInt8) (hr : r.length < 4294967296) (hg : g.length < 140737488355328) (w : World) :
    Calls Try.prog 15 #[str g, str r] w (Ret fun v w' => v = str (g ++ Wal.rcd r) ∧ Ext [] w w') := by
  refine calls_fx (l := [str g, str r]) Try.func15 rfl Try.ntmps15 (Nat.le_of_ble_eq_true rfl) (St.start w) ?_
  refine c_seq ?_
  refine c_reg ?_
  refine l_q (by decide) (p_assign (v := str []) rfl).q ?_
  refine l_nil ?_
  refine c_seq ?_
  refine c_reg ?_
  refine l_q (by decide) (p_move rfl).q ?_
  refine l_q (by decide) (p_len_str Try.underlying9 rfl).q ?_
  refine l_q (by decide) (q_call call_23 rfl (fun w hs => little_ok _ (by omega) w)) ?_
  refine l_q (by decide) (p_assign rfl).q ?_
  refine l_nil ?_
  refine c_seq ?_
  refine c_reg ?_
  refine l_q (by decide) (p_move rfl).q ?_
  refine l_q (by decide) (p_move rfl).q ?_
  first | refine l_q (by decide) (p_cat rfl rfl (by omega)).q ?_ | refine l_q (by decide) (p_cat rfl rfl (by simp; omega)).q ?_
  refine l_q (by decide) (p_move rfl).q ?_
  refine l_q (by decide) (p_move rfl).q ?_
  first | refine l_q (by decide) (p_cat rfl rfl (by omega)).q ?_ | refine l_q (by decide) (p_cat rfl rfl (by simp; omega)).q ?_
  refine l_q (by decide) (q_call call_24 rfl (fun w hs => hash_ok _ (by simp; omega) w)) ?_
  refine l_q (by decide) (q_call call_23 rfl (fun w hs => little_ok _ (Wal.hash_lt _ _ (by decide)) w)) ?_
  first | refine l_q (by decide) (p_cat rfl rfl (by omega)).q ?_ | refine l_q (by decide) (p_cat rfl rfl (by simp; omega)).q ?_
  refine l_q (by decide) (p_move rfl).q ?_
  first | refine l_q (by decide) (p_cat rfl rfl (by omega)).q ?_ | refine l_q (by decide) (p_cat rfl rfl (by simp; omega)).q ?_
  refine l_q (by decide) (p_assign rfl).q ?_
  refine l_nil ?_
  refine c_ret ?_
  refine c_ret1 rfl rfl (fun w hs => ?_)
  exact ⟨by simp [Wal.rcd, Wal.chk, Wal.hash_append], hs.ext⟩
end Go.Proofs.Ytjpachkjljmljaa
