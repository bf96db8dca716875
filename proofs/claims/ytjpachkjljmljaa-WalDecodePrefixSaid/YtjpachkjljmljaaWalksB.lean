/- The walks of the write-ahead log, second part; conditions: lengths. -/
import Derived.Test.YtjpachkjljmljaaWalks
import Derived.Test.YtjpachkjljmljaaShelf
namespace Go.Proofs.Ytjpachkjljmljaa
open Go Go.Fx Go.Proofs
theorem noEscape (x : Value) (w : World) : (callFunc 29 #[x]).run Try.prog w = .ok (.value x) w := by kernel_rfl
theorem inf_9 : InfoIs Try.prog 9 1 16 (.string ⟨#[]⟩) := by unfold InfoIs; kernel_rfl
theorem inf_34 : InfoIs Try.prog 34 1 24 (.slice none 0 0) := by unfold InfoIs; kernel_rfl
theorem inf_36 : InfoIs Try.prog 36 1 8 (.pointer none) := by unfold InfoIs; kernel_rfl
theorem inf_38 : InfoIs Try.prog 38 2 32 (.agg #[.pointer none, .slice none 0 0]) := by unfold InfoIs; kernel_rfl
theorem call_14 : Callable Try.prog 14 := ⟨_, Try.func14, by kernel_rfl, rfl⟩
theorem call_15 : Callable Try.prog 15 := ⟨_, Try.func15, by kernel_rfl, rfl⟩
theorem call_19 : Callable Try.prog 19 := ⟨_, Try.func19, by kernel_rfl, rfl⟩
theorem call_20 : Callable Try.prog 20 := ⟨_, Try.func20, by kernel_rfl, rfl⟩
theorem call_25 : Callable Try.prog 25 := ⟨_, Try.func25, by kernel_rfl, rfl⟩
theorem call_26 : Callable Try.prog 26 := ⟨_, Try.func26, by kernel_rfl, rfl⟩
theorem copyCheck_ok (b : Nat) (a : Option Addr) (ha : a = none ∨ a = some ⟨b, 0, none⟩) (v0 : Value) (ρ : Facts) (w : World) (h : St w [b] w [iCells b 38 [.pointer a, v0]] ρ) :
    Calls Try.prog 26 #[.pointer (some ⟨b, 0, none⟩)] w (Ret fun v w' => ∃ (_ : Unit) (ρ' : Facts), v = .tuple #[] ∧ St w [b] w' [iCells b 38 [.pointer (some ⟨b, 0, none⟩), v0]] ρ') := by
  refine calls_fx (l := [.pointer (some ⟨b, 0, none⟩)]) Try.func26 rfl Try.ntmps26 (Nat.le_of_ble_eq_true rfl) h ?_
  refine c_seq ?_
  refine c_reg ?_
  refine l_q (by decide) (p_move rfl).q ?_
  refine l_q (by decide) (p_nilp rfl).q ?_
  first | refine l_q (by decide) (p_fieldAddr (i := 0) Try.underlying38 rfl inf_36 (by decide) rfl).q ?_ | refine l_q (by decide) (p_fieldAddro (i := 0) Try.underlying38 rfl inf_36 (by decide) rfl).q ?_
  first | refine l_q (by decide) (r_loado Try.underlying36 rfl rfl (by repeat (first | exact List.Mem.head _ | apply List.Mem.tail)) (by rfl)).q ?_ | refine l_q (by decide) (r_load1 Try.underlying36 rfl rfl (by first | exact .fact (by repeat (first | exact List.Mem.head _ | apply List.Mem.tail)) | exact .own (by repeat (first | exact List.Mem.head _ | apply List.Mem.tail)) (by decide) (fun _ => rfl)) (by assumption) (by rfl)).q ?_ | refine l_q (by decide) (r_loadf Try.underlying36 rfl rfl (by first | exact .fact (by repeat (first | exact List.Mem.head _ | apply List.Mem.tail)) | exact .own (by repeat (first | exact List.Mem.head _ | apply List.Mem.tail)) (by decide) (fun _ => rfl)) (by assumption) (by rfl)).q ?_
  first | refine l_q (by decide) (p_eqpn Try.underlying36 rfl rfl).q ?_ | refine l_q (by decide) (p_eqps Try.underlying36 inf_38 rfl rfl).q ?_
  refine l_nil ?_
  first | refine c_dec rfl (fun h6 => ?_) (fun h6 => ?_) | refine c_cond rfl (fun h6 => ?_) (fun h6 => ?_)
  · skip
    obtain rfl : a = none := by cases a <;> simp_all
    refine c_reg ?_
    refine l_q (by decide) (p_move rfl).q ?_
    refine l_q (by decide) (p_move rfl).q ?_
    refine l_q (by decide) (r_toUnsafe Try.underlying36 Try.underlying55 inf_38 (by decide) rfl (by repeat (first | exact List.Mem.head _ | apply List.Mem.tail)) (Nat.le_of_ble_eq_true rfl)).q ?_
    refine l_q (by decide) (p_ext (us := [.pointer (some ⟨b, 0, none⟩)]) rfl (fun w => noEscape _ w)).q ?_
    refine l_q (by decide) (r_fromUnsafe Try.underlying55 Try.underlying36 inf_38 rfl (by repeat (first | exact List.Mem.head _ | apply List.Mem.tail)) (by kernel_rfl)).q ?_
    refine l_q (by decide) (p_nilp rfl).q ?_
    first | refine l_q (by decide) (p_fieldAddr (i := 0) Try.underlying38 rfl inf_36 (by decide) rfl).q ?_ | refine l_q (by decide) (p_fieldAddro (i := 0) Try.underlying38 rfl inf_36 (by decide) rfl).q ?_
    first | (refine l_store inf_36 rfl rfl rfl rfl (by first | decide | simp | omega) ?_) | (refine l_perm (front1 _ _ _) ?_; refine l_store inf_36 rfl rfl rfl rfl (by first | decide | simp | omega) ?_) | (refine l_perm (front2 _ _ _ _) ?_; refine l_store inf_36 rfl rfl rfl rfl (by first | decide | simp | omega) ?_) | (refine l_perm (front3 _ _ _ _ _) ?_; refine l_store inf_36 rfl rfl rfl rfl (by first | decide | simp | omega) ?_) | (refine l_perm (front4 _ _ _ _ _ _) ?_; refine l_store inf_36 rfl rfl rfl rfl (by first | decide | simp | omega) ?_)
    refine l_nil ?_
    refine c_ret0 rfl (fun w hs => ?_)
    exact ⟨(), ρ, rfl, hs⟩
  · skip
    obtain rfl : a = some ⟨b, 0, none⟩ := by cases a <;> simp_all
    refine c_seq ?_
    refine c_reg ?_
    refine l_q (by decide) (p_move rfl).q ?_
    refine l_q (by decide) (p_nilp rfl).q ?_
    first | refine l_q (by decide) (p_fieldAddr (i := 0) Try.underlying38 rfl inf_36 (by decide) rfl).q ?_ | refine l_q (by decide) (p_fieldAddro (i := 0) Try.underlying38 rfl inf_36 (by decide) rfl).q ?_
    first | refine l_q (by decide) (r_loado Try.underlying36 rfl rfl (by repeat (first | exact List.Mem.head _ | apply List.Mem.tail)) (by rfl)).q ?_ | refine l_q (by decide) (r_load1 Try.underlying36 rfl rfl (by first | exact .fact (by repeat (first | exact List.Mem.head _ | apply List.Mem.tail)) | exact .own (by repeat (first | exact List.Mem.head _ | apply List.Mem.tail)) (by decide) (fun _ => rfl)) (by assumption) (by rfl)).q ?_ | refine l_q (by decide) (r_loadf Try.underlying36 rfl rfl (by first | exact .fact (by repeat (first | exact List.Mem.head _ | apply List.Mem.tail)) | exact .own (by repeat (first | exact List.Mem.head _ | apply List.Mem.tail)) (by decide) (fun _ => rfl)) (by assumption) (by rfl)).q ?_
    refine l_q (by decide) (p_move rfl).q ?_
    first | refine l_q (by decide) (p_neqpn Try.underlying36 rfl rfl).q ?_ | refine l_q (by decide) (p_neqps Try.underlying36 inf_38 rfl rfl).q ?_
    refine l_nil ?_
    refine c_false rfl ?_
    refine c_skip ?_
    refine c_ret0 rfl (fun w hs => ?_)
    exact ⟨(), ρ, rfl, hs⟩

theorem writeString_ok (b : Nat) (a A : Option Addr) (c : Nat) (l s : List UInt8) (ha : a = none ∨ a = some ⟨b, 0, none⟩) (hl : l.length + s.length ≤ 140737488355328) (ρ : Facts) (w : World) (h : St w (keysOf [iCells b 38 [.pointer a, .slice A (l).length c], iSl 5 1 byteF A c (l)]) w [iCells b 38 [.pointer a, .slice A (l).length c], iSl 5 1 byteF A c (l)] ρ) :
    Calls Try.prog 19 #[.pointer (some ⟨b, 0, none⟩), str s] w (Ret fun v w' => ∃ (x : Option Addr × Nat) (ρ' : Facts), v = .tuple #[.int .i64 (s.length : Int), .nilIface] ∧ St w (keysOf [iCells b 38 [.pointer a, .slice A (l).length c], iSl 5 1 byteF A c (l)]) w' [iCells b 38 [.pointer (some ⟨b, 0, none⟩), .slice x.1 (l ++ s).length x.2], iSl 5 1 byteF x.1 x.2 (l ++ s)] ρ') := by
  refine calls_fx (l := [.pointer (some ⟨b, 0, none⟩), str s]) Try.func19 rfl Try.ntmps19 (Nat.le_of_ble_eq_true rfl) h ?_
  refine c_seq ?_
  refine c_reg ?_
  refine l_q (by decide) (p_assign (v := .int .i64 ((0 : Nat) : Int)) rfl).q ?_
  refine l_q (by decide) (p_assign rfl).q ?_
  refine l_nil ?_
  refine c_seq ?_
  refine c_reg ?_
  refine l_q (by decide) (p_move rfl).q ?_
  refine l_callo (τ := [iCells b 38 [.pointer a, .slice A l.length c]]) (σ := [iSl 5 1 byteF A c l]) (fun _ => .tuple #[]) (fun _ : Unit => [iCells b 38 [.pointer (some ⟨b, 0, none⟩), .slice A l.length c]]) (by decide) call_26 rfl (fun w hs => copyCheck_ok b a ha _ _ w hs) (fun _ => ?_)
  refine l_nil ?_
  refine c_seq ?_
  refine c_reg ?_
  refine l_q (by decide) (p_move rfl).q ?_
  refine l_q (by decide) (p_move rfl).q ?_
  refine l_q (by decide) (p_nilp rfl).q ?_
  first | refine l_q (by decide) (p_fieldAddr (i := 1) Try.underlying38 rfl inf_34 (by decide) rfl).q ?_ | refine l_q (by decide) (p_fieldAddro (i := 1) Try.underlying38 rfl inf_34 (by decide) rfl).q ?_
  first | refine l_q (by decide) (r_loado Try.underlying34 rfl rfl (by repeat (first | exact List.Mem.head _ | apply List.Mem.tail)) (by rfl)).q ?_ | refine l_q (by decide) (r_load1 Try.underlying34 rfl rfl (by first | exact .fact (by repeat (first | exact List.Mem.head _ | apply List.Mem.tail)) | exact .own (by repeat (first | exact List.Mem.head _ | apply List.Mem.tail)) (by decide) (fun _ => rfl)) (by assumption) (by rfl)).q ?_ | refine l_q (by decide) (r_loadf Try.underlying34 rfl rfl (by first | exact .fact (by repeat (first | exact List.Mem.head _ | apply List.Mem.tail)) | exact .own (by repeat (first | exact List.Mem.head _ | apply List.Mem.tail)) (by decide) (fun _ => rfl)) (by assumption) (by rfl)).q ?_
  refine l_q (by decide) (p_move rfl).q ?_
  first | (refine l_append_str (by decide) Try.underlying34 Try.underlying9 inf_5 rfl rfl rfl (by omega) (fun A14 c14 => ?_)) | (refine l_perm (front1 _ _ _) ?_; refine l_append_str (by decide) Try.underlying34 Try.underlying9 inf_5 rfl rfl rfl (by omega) (fun A14 c14 => ?_)) | (refine l_perm (front2 _ _ _ _) ?_; refine l_append_str (by decide) Try.underlying34 Try.underlying9 inf_5 rfl rfl rfl (by omega) (fun A14 c14 => ?_))
  refine l_q (by decide) (p_nilp rfl).q ?_
  first | refine l_q (by decide) (p_fieldAddr (i := 1) Try.underlying38 rfl inf_34 (by decide) rfl).q ?_ | refine l_q (by decide) (p_fieldAddro (i := 1) Try.underlying38 rfl inf_34 (by decide) rfl).q ?_
  first | (refine l_store inf_34 rfl rfl rfl rfl (by first | decide | simp | omega) ?_) | (refine l_perm (front1 _ _ _) ?_; refine l_store inf_34 rfl rfl rfl rfl (by first | decide | simp | omega) ?_) | (refine l_perm (front2 _ _ _ _) ?_; refine l_store inf_34 rfl rfl rfl rfl (by first | decide | simp | omega) ?_) | (refine l_perm (front3 _ _ _ _ _) ?_; refine l_store inf_34 rfl rfl rfl rfl (by first | decide | simp | omega) ?_) | (refine l_perm (front4 _ _ _ _ _ _) ?_; refine l_store inf_34 rfl rfl rfl rfl (by first | decide | simp | omega) ?_)
  refine l_nil ?_
  refine c_seq ?_
  refine c_reg ?_
  refine l_q (by decide) (p_move rfl).q ?_
  refine l_q (by decide) (p_len_str Try.underlying9 rfl).q ?_
  refine l_q (by decide) (p_assign rfl).q ?_
  refine l_q (by decide) (p_assign rfl).q ?_
  refine l_nil ?_
  refine c_ret ?_
  refine c_ret2 rfl rfl rfl (fun w hs => ?_)
  exact ⟨(A14, c14), ρ, rfl, hs⟩


theorem string_ok (b : Nat) (a A : Option Addr) (c : Nat) (l : List UInt8) (ha : a = none ∨ a = some ⟨b, 0, none⟩) (w0 w : World) (ρ : Facts) (hs : St w0 [] w [iCells b 38 [.pointer a, .slice A (l).length c], iSl 5 1 byteF A c (l)] ρ) :
    Calls Try.prog 20 #[.pointer (some ⟨b, 0, none⟩)] w (Ret fun v w' => v = str l ∧ Ext [] w0 w') := by
  have h1 := hs.own _ (List.mem_cons_self ..)
  have h2 := hs.own _ (List.mem_cons_of_mem _ (List.mem_cons_self ..))
  have hb : w0.heap.size ≤ b := by simpa using (h1.2.2 b (by simp [iCells])).2
  have hrow : w.ownsRow w0.heap.size 5 1 (.slice A l.length c) (Lib.byteCells l).length (Lib.byteCells l) := by
    have h3 : w.ownsRow 0 5 1 (.slice A l.length c) l.length (l.flatMap byteF) := h2.1
    have e : Lib.byteCells l = l.flatMap byteF := by rw [← bytesV_eq]; simp [Lib.byteCells, bytesV]
    rw [e]
    rw [show (l.flatMap byteF).length = l.length by rw [← bytesV_eq]; simp [bytesV]]
    refine ⟨h3.1, ?_⟩
    rcases h3.2 with h4 | ⟨g, cap, cur, hv, hg, hh, hr⟩
    · exact .inl h4
    · refine .inr ⟨g, cap, cur, hv, ?_, hh, hr⟩
      have := (h2.2.2 g (by simp [iSl, iRow, hv, Value.ownBlock])).2
      simpa using this
  have hne : (Value.slice A l.length c).ownBlock ≠ some b := fun e => by
    have hn := hs.nodup
    have hk : b ∈ (iSl 5 1 byteF A c l).keys := by simp [iSl, iRow, e]
    simp only [keysOf, iCells, List.cons_append, List.nil_append, List.append_nil] at hn
    exact (List.nodup_cons.1 hn).1 hk
  have hB : Lib.IsBuilder 38 5 w0.heap.size b (Lib.byteCells l) w := by
    have hh : w.heap[b]? = some (.cells #[.pointer a, .slice A l.length c] 38 (0, 0)) := h1.1
    rcases ha with rfl | rfl
    · exact .inl ⟨hb, _, hh, hrow, hne⟩
    · exact .inr ⟨hb, _, hh, hrow, hne⟩
  refine (Try.Builder_String_any w0.heap.size b l w hB hs.ext.size).mono ?_
  rintro e w' ⟨rfl, h⟩
  exact ⟨rfl, ⟨h.os.trans hs.ext.os, h.tape.trans hs.ext.tape, h.output.trans hs.ext.output, Nat.le_trans hs.ext.size h.size, fun k hk hn => (h.block k hk).trans (hs.ext.block k hk hn)⟩⟩

theorem encode_ok (A : Option Addr) (c : Nat) (l : List (List UInt8)) (hlen : l.length ≤ 1000) (hfew : (Wal.enc l).length ≤ 100000) (w : World) (hq : Sl 1 strF A l w) :
    Calls Try.prog 12 #[.slice A l.length c] w (Ret fun v w' => v = str (Wal.enc l) ∧ Ext [] w w') := by
  have hshort : ∀ r, r ∈ l → r.length < 4294967296 := fun r hr => by have h1 := Wal.mem_le_sum l r hr; have h2 := Wal.length_enc l; omega
  refine calls_fx (l := [.slice A l.length c]) Try.func12 rfl Try.ntmps12 (Nat.le_of_ble_eq_true rfl) ((St.start w).old hq (dep_sl (by decide) hq)) ?_
  refine c_seq ?_
  refine c_reg ?_
  refine l_q (by decide) (p_assign (v := str []) rfl).q ?_
  refine l_nil ?_
  refine c_seq ?_
  refine c_reg ?_
  refine l_alloc (by decide) inf_38 _ rfl (fun b3 => ?_)
  refine l_nil ?_
  refine c_seq ?_
  refine c_seq ?_
  refine c_reg ?_
  refine l_q (by decide) (p_move rfl).q ?_
  refine l_q (by decide) (p_len_sl Try.underlying22 rfl).q ?_
  refine l_q (by decide) (p_move (v := .int .i64 ((0 : Nat) : Int)) rfl).q ?_
  refine l_nil ?_
  refine c_block ?_
  refine c_sl0 5 1 byteF ?_
  refine c_perm (front1 _ _ _) ?_
  refine c_loop (S := Nat × Option Addr × Option Addr × Nat) (fun s => s.1 ≤ l.length ∧ (s.2.1 = none ∨ s.2.1 = some ⟨b3, 0, none⟩)) (fun s => l.length - s.1) (fun s => [(3, .pointer (some ⟨b3, 0, none⟩)), (6, .slice A l.length c), (7, .int .i64 (l.length : Int)), (8, .int .i64 (s.1 : Int))]) (fun s => [iCells b3 38 [.pointer s.2.1, .slice s.2.2.1 (Wal.enc (l.take s.1)).length s.2.2.2], iSl 5 1 byteF s.2.2.1 s.2.2.2 (Wal.enc (l.take s.1))]) (fun s => [Sl 1 strF A l]) (0, none, none, 0) ?_ ?_ ?_ ?_ ?_
  · exact ⟨Nat.zero_le _, .inl rfl⟩
  · exact ⟨rfl, rfl, rfl, rfl, trivial⟩
  · exact .refl _
  · simp
  intro ⟨i, a, A1, c1⟩ ⟨hi, ha⟩
  refine c_seq ?_
  refine c_reg ?_
  first | refine l_q (by decide) (p_lss rfl rfl rfl rfl).q ?_ | refine l_q (by decide) (p_lssi rfl rfl).q ?_
  refine l_nil ?_
  refine c_seq ?_
  first | refine c_dec rfl (fun h9 => ?_) (fun h9 => ?_) | refine c_cond rfl (fun h9 => ?_) (fun h9 => ?_)
  · skip
    have h9 : i < l.length := h9
    obtain ⟨r, hr⟩ : ∃ r, l[i]? = some r := ⟨_, List.getElem?_eq_getElem h9⟩
    have hrl := hshort r (List.mem_of_getElem? hr)
    have ht := Wal.enc_take_le l (i + 1)
    rw [Wal.enc_take hr] at ht
    simp only [List.length_append, Wal.length_rcd] at ht
    refine c_skip ?_
    refine c_seq ?_
    refine c_block ?_
    refine c_seq ?_
    refine c_reg ?_
    first | refine l_q (by decide) (r_index Try.underlying22 inf_9 rfl rfl rfl (by first | exact .fact (by repeat (first | exact List.Mem.head _ | apply List.Mem.tail)) | exact .own (by repeat (first | exact List.Mem.head _ | apply List.Mem.tail)) (by decide) (fun _ => rfl)) rfl (by omega)).q ?_ | refine l_q (by decide) (p_indexo Try.underlying22 inf_9 rfl rfl rfl (by omega)).q ?_
    first | refine l_q (by decide) (r_loado Try.underlying9 rfl rfl (by repeat (first | exact List.Mem.head _ | apply List.Mem.tail)) (by rfl)).q ?_ | refine l_q (by decide) (r_load1 Try.underlying9 rfl rfl (by first | exact .fact (by repeat (first | exact List.Mem.head _ | apply List.Mem.tail)) | exact .own (by repeat (first | exact List.Mem.head _ | apply List.Mem.tail)) (by decide) (fun _ => rfl)) (by assumption) (by rfl)).q ?_ | refine l_q (by decide) (r_loadf Try.underlying9 rfl rfl (by first | exact .fact (by repeat (first | exact List.Mem.head _ | apply List.Mem.tail)) | exact .own (by repeat (first | exact List.Mem.head _ | apply List.Mem.tail)) (by decide) (fun _ => rfl)) (by assumption) (by rfl)).q ?_
    refine l_q (by decide) (p_assign rfl).q ?_
    refine l_nil ?_
    refine c_reg ?_
    refine l_q (by decide) (p_move rfl).q ?_
    refine l_q (by decide) (q_call call_14 rfl (fun w hs => append_ok [] _ (by omega) (by simp) w)) ?_
    refine l_callo (τ := [iCells b3 38 [.pointer a, .slice A1 (Wal.enc (l.take i)).length c1], iSl 5 1 byteF A1 c1 (Wal.enc (l.take i))]) (σ := []) (fun _ => .tuple #[.int .i64 ((Wal.rcd r).length : Int), .nilIface]) (fun x : Option Addr × Nat => [iCells b3 38 [.pointer (some ⟨b3, 0, none⟩), .slice x.1 (Wal.enc (l.take i) ++ Wal.rcd r).length x.2], iSl 5 1 byteF x.1 x.2 (Wal.enc (l.take i) ++ Wal.rcd r)]) (by decide) call_19 rfl (fun w hs => writeString_ok b3 a A1 c1 _ _ ha (by simp only [List.nil_append, Wal.length_rcd]; omega) _ w hs) (fun x => ?_)
    obtain ⟨A14, c14⟩ := x
    refine l_nil ?_
    refine c_reg ?_
    first | refine l_q (by decide) (p_add (j := 1) rfl rfl rfl rfl (by show _ ≤ (9223372036854775807 : Nat); omega)).q ?_ | refine l_q (by decide) (p_addi rfl rfl (by show (-9223372036854775808 : Int) ≤ _; omega) (by show _ ≤ ((9223372036854775807 : Nat) : Int); omega)).q ?_
    refine l_q (by decide) (p_move rfl).q ?_
    refine l_nil ?_
    refine c_join (i + 1, some ⟨b3, 0, none⟩, A14, c14) ?_ ?_ ?_ ?_
    · exact ⟨⟨by show i + 1 ≤ l.length; omega, .inr rfl⟩, by show l.length - (i + 1) < l.length - i; omega⟩
    · exact ⟨rfl, rfl, rfl, rfl, trivial⟩
    · exact by show List.Perm _ [_, _]; simp only [Wal.enc_take hr]; exact .refl _
    · simp
  · skip
    refine c_exit ?_
    refine c_here ?_
    refine c_seq ?_
    refine c_reg ?_
    refine l_calle (V := str (Wal.enc l)) (by decide) call_20 rfl (fun w' hs => ?_) ?_
    · have := string_ok b3 a A1 c1 (Wal.enc (l.take i)) ha w w' _ hs
      rw [List.take_of_length_le (by have h9 : ¬ i < l.length := h9; omega)] at this
      exact this
    refine l_q (by decide) (p_assign rfl).q ?_
    refine l_nil ?_
    refine c_ret ?_
    refine c_ret1 rfl rfl (fun w hs => ?_)
    exact ⟨rfl, hs.ext⟩

theorem encode2_ok (A : Option Addr) (c : Nat) (l : List (List UInt8)) (hlen : l.length ≤ 1000) (hfew : (Wal.enc l).length ≤ 100000) (w : World) (hq : Sl 1 strF A l w) :
    Calls Try.prog 13 #[.slice A l.length c] w (Ret fun v w' => v = str (Wal.enc l) ∧ Ext [] w w') := by
  have hshort : ∀ r, r ∈ l → r.length < 4294967296 := fun r hr => by have h1 := Wal.mem_le_sum l r hr; have h2 := Wal.length_enc l; omega
  refine calls_fx (l := [.slice A l.length c]) Try.func13 rfl Try.ntmps13 (Nat.le_of_ble_eq_true rfl) ((St.start w).old hq (dep_sl (by decide) hq)) ?_
  refine c_seq ?_
  refine c_reg ?_
  refine l_q (by decide) (p_assign (v := str []) rfl).q ?_
  refine l_nil ?_
  refine c_seq ?_
  refine c_reg ?_
  refine l_q (by decide) (p_assign (v := str []) rfl).q ?_
  refine l_nil ?_
  refine c_seq ?_
  refine c_seq ?_
  refine c_reg ?_
  refine l_q (by decide) (p_assign (v := .int .i64 ((0 : Nat) : Int)) rfl).q ?_
  refine l_nil ?_
  refine c_block ?_
  refine c_loop (S := Nat) (fun i => i ≤ l.length) (fun i => l.length - i) (fun i => [(0, .slice A l.length c), (3, str (Wal.enc (l.take i))), (4, .int .i64 (i : Int))]) (fun i => []) (fun i => [Sl 1 strF A l]) 0 ?_ ?_ ?_ ?_ ?_
  · exact (Nat.zero_le _)
  · exact ⟨rfl, rfl, rfl, trivial⟩
  · exact .refl _
  · simp
  intro i hi
  refine c_seq ?_
  refine c_seq ?_
  refine c_reg ?_
  refine l_q (by decide) (p_move rfl).q ?_
  refine l_q (by decide) (p_move rfl).q ?_
  refine l_q (by decide) (p_len_sl Try.underlying22 rfl).q ?_
  first | refine l_q (by decide) (p_lss rfl rfl rfl rfl).q ?_ | refine l_q (by decide) (p_lssi rfl rfl).q ?_
  refine l_nil ?_
  first | refine c_dec rfl (fun h8 => ?_) (fun h8 => ?_) | refine c_cond rfl (fun h8 => ?_) (fun h8 => ?_)
  · skip
    obtain ⟨r, hr⟩ : ∃ r, l[i]? = some r := ⟨_, List.getElem?_eq_getElem h8⟩
    have hrl := hshort r (List.mem_of_getElem? hr)
    have ht := Wal.enc_take_le l i
    refine c_skip ?_
    refine c_seq ?_
    refine c_block ?_
    refine c_reg ?_
    refine l_q (by decide) (p_move rfl).q ?_
    refine l_q (by decide) (p_move rfl).q ?_
    refine l_q (by decide) (p_move rfl).q ?_
    first | refine l_q (by decide) (r_index Try.underlying22 inf_9 rfl rfl rfl (by first | exact .fact (by repeat (first | exact List.Mem.head _ | apply List.Mem.tail)) | exact .own (by repeat (first | exact List.Mem.head _ | apply List.Mem.tail)) (by decide) (fun _ => rfl)) rfl (by omega)).q ?_ | refine l_q (by decide) (p_indexo Try.underlying22 inf_9 rfl rfl rfl (by omega)).q ?_
    first | refine l_q (by decide) (r_loado Try.underlying9 rfl rfl (by repeat (first | exact List.Mem.head _ | apply List.Mem.tail)) (by rfl)).q ?_ | refine l_q (by decide) (r_load1 Try.underlying9 rfl rfl (by first | exact .fact (by repeat (first | exact List.Mem.head _ | apply List.Mem.tail)) | exact .own (by repeat (first | exact List.Mem.head _ | apply List.Mem.tail)) (by decide) (fun _ => rfl)) (by assumption) (by rfl)).q ?_ | refine l_q (by decide) (r_loadf Try.underlying9 rfl rfl (by first | exact .fact (by repeat (first | exact List.Mem.head _ | apply List.Mem.tail)) | exact .own (by repeat (first | exact List.Mem.head _ | apply List.Mem.tail)) (by decide) (fun _ => rfl)) (by assumption) (by rfl)).q ?_
    refine l_q (by decide) (q_call call_15 rfl (fun w hs => append2_ok _ _ (by omega) (by omega) w)) ?_
    refine l_q (by decide) (p_assign rfl).q ?_
    refine l_nil ?_
    refine c_reg ?_
    refine l_q (by decide) (p_move rfl).q ?_
    first | refine l_q (by decide) (p_add (j := 1) rfl rfl rfl rfl (by show _ ≤ (9223372036854775807 : Nat); omega)).q ?_ | refine l_q (by decide) (p_addi rfl rfl (by show (-9223372036854775808 : Int) ≤ _; omega) (by show _ ≤ ((9223372036854775807 : Nat) : Int); omega)).q ?_
    refine l_q (by decide) (p_assign rfl).q ?_
    refine l_nil ?_
    refine c_join (i + 1) ?_ ?_ ?_ ?_
    · exact ⟨by omega, by omega⟩
    · exact ⟨rfl, by rw [Wal.enc_take hr]; rfl, rfl, trivial⟩
    · exact .refl _
    · simp
  · skip
    refine c_exit ?_
    refine c_here ?_
    refine c_seq ?_
    refine c_reg ?_
    refine l_q (by decide) (p_move rfl).q ?_
    refine l_q (by decide) (p_assign rfl).q ?_
    refine l_nil ?_
    refine c_ret ?_
    refine c_ret1 rfl rfl (fun w hs => ?_)
    exact ⟨by rw [List.take_of_length_le (by omega)], hs.ext⟩

theorem same_ok (A B : Option Addr) (c d : Nat) (l m : List (List UInt8)) (hl : l.length < 140737488355328) (w : World) (hq : Sl 1 strF A l w) (hp : Sl 1 strF B m w) :
    Calls Try.prog 18 #[.slice A l.length c, .slice B m.length d] w (Ret fun v w' => v = .bool (decide (l = m)) ∧ Ext [] w w') := by
  refine calls_fx (l := [.slice A l.length c, .slice B m.length d]) Try.func18 rfl Try.ntmps18 (Nat.le_of_ble_eq_true rfl) (((St.start w).old hq (dep_sl (by decide) hq)).old hp (dep_sl (by decide) hp)) ?_
  refine c_seq ?_
  refine c_reg ?_
  refine l_q (by decide) (p_assign rfl).q ?_
  refine l_nil ?_
  refine c_seq ?_
  refine c_seq ?_
  refine c_reg ?_
  refine l_q (by decide) (p_move rfl).q ?_
  refine l_q (by decide) (p_len_sl Try.underlying22 rfl).q ?_
  refine l_q (by decide) (p_move rfl).q ?_
  refine l_q (by decide) (p_len_sl Try.underlying22 rfl).q ?_
  first | refine l_q (by decide) (p_neq rfl rfl rfl rfl).q ?_ | refine l_q (by decide) (p_neqi rfl rfl).q ?_
  refine l_nil ?_
  first | refine c_dec rfl (fun h10 => ?_) (fun h10 => ?_) | refine c_cond rfl (fun h10 => ?_) (fun h10 => ?_)
  · skip
    refine c_seq ?_
    refine c_reg ?_
    refine l_q (by decide) (p_assign rfl).q ?_
    refine l_nil ?_
    refine c_ret ?_
    refine c_ret1 rfl rfl (fun w hs => ?_)
    exact ⟨by rw [decide_eq_false (fun h => h10 (by rw [h]))], hs.ext⟩
  · skip
    have h10 : l.length = m.length := Decidable.not_not.1 h10
    refine c_skip ?_
    refine c_seq ?_
    refine c_seq ?_
    refine c_reg ?_
    refine l_q (by decide) (p_assign (v := .int .i64 ((0 : Nat) : Int)) rfl).q ?_
    refine l_nil ?_
    refine c_block ?_
    refine c_loop (S := Nat) (fun i => i ≤ l.length ∧ l.take i = m.take i) (fun i => l.length - i) (fun i => [(0, .slice A l.length c), (1, .slice B m.length d), (5, .int .i64 (i : Int))]) (fun i => []) (fun i => [Sl 1 strF B m, Sl 1 strF A l]) 0 ?_ ?_ ?_ ?_ ?_
    · exact ⟨Nat.zero_le _, rfl⟩
    · exact ⟨rfl, rfl, rfl, trivial⟩
    · exact .refl _
    · simp
    intro i ⟨hi, he⟩
    refine c_seq ?_
    refine c_seq ?_
    refine c_reg ?_
    refine l_q (by decide) (p_move rfl).q ?_
    refine l_q (by decide) (p_move rfl).q ?_
    refine l_q (by decide) (p_len_sl Try.underlying22 rfl).q ?_
    first | refine l_q (by decide) (p_lss rfl rfl rfl rfl).q ?_ | refine l_q (by decide) (p_lssi rfl rfl).q ?_
    refine l_nil ?_
    first | refine c_dec rfl (fun h14 => ?_) (fun h14 => ?_) | refine c_cond rfl (fun h14 => ?_) (fun h14 => ?_)
    · skip
      obtain ⟨r, hr⟩ : ∃ r, l[i]? = some r := ⟨_, List.getElem?_eq_getElem h14⟩
      obtain ⟨t, ht⟩ : ∃ t, m[i]? = some t := ⟨_, List.getElem?_eq_getElem (by omega)⟩
      refine c_skip ?_
      refine c_seq ?_
      refine c_block ?_
      refine c_seq ?_
      refine c_draw mixed (by decide +kernel) ?_
      refine q_q (by decide) (p_move rfl).q ?_
      refine q_q (by decide) (p_move rfl).q ?_
      first | refine q_q (by decide) (r_index Try.underlying22 inf_9 rfl rfl rfl (by first | exact .fact (by repeat (first | exact List.Mem.head _ | apply List.Mem.tail)) | exact .own (by repeat (first | exact List.Mem.head _ | apply List.Mem.tail)) (by decide) (fun _ => rfl)) rfl (by omega)).q ?_ | refine q_q (by decide) (p_indexo Try.underlying22 inf_9 rfl rfl rfl (by omega)).q ?_
      first | refine q_q (by decide) (r_loado Try.underlying9 rfl rfl (by repeat (first | exact List.Mem.head _ | apply List.Mem.tail)) (by rfl)).q ?_ | refine q_q (by decide) (r_load1 Try.underlying9 rfl rfl (by first | exact .fact (by repeat (first | exact List.Mem.head _ | apply List.Mem.tail)) | exact .own (by repeat (first | exact List.Mem.head _ | apply List.Mem.tail)) (by decide) (fun _ => rfl)) (by assumption) (by rfl)).q ?_ | refine q_q (by decide) (r_loadf Try.underlying9 rfl rfl (by first | exact .fact (by repeat (first | exact List.Mem.head _ | apply List.Mem.tail)) | exact .own (by repeat (first | exact List.Mem.head _ | apply List.Mem.tail)) (by decide) (fun _ => rfl)) (by assumption) (by rfl)).q ?_
      refine q_q (by decide) (p_move rfl).q ?_
      refine q_q (by decide) (p_move rfl).q ?_
      first | refine q_q (by decide) (r_index Try.underlying22 inf_9 rfl rfl rfl (by first | exact .fact (by repeat (first | exact List.Mem.head _ | apply List.Mem.tail)) | exact .own (by repeat (first | exact List.Mem.head _ | apply List.Mem.tail)) (by decide) (fun _ => rfl)) rfl (by omega)).q ?_ | refine q_q (by decide) (p_indexo Try.underlying22 inf_9 rfl rfl rfl (by omega)).q ?_
      first | refine q_q (by decide) (r_loado Try.underlying9 rfl rfl (by repeat (first | exact List.Mem.head _ | apply List.Mem.tail)) (by rfl)).q ?_ | refine q_q (by decide) (r_load1 Try.underlying9 rfl rfl (by first | exact .fact (by repeat (first | exact List.Mem.head _ | apply List.Mem.tail)) | exact .own (by repeat (first | exact List.Mem.head _ | apply List.Mem.tail)) (by decide) (fun _ => rfl)) (by assumption) (by rfl)).q ?_ | refine q_q (by decide) (r_loadf Try.underlying9 rfl rfl (by first | exact .fact (by repeat (first | exact List.Mem.head _ | apply List.Mem.tail)) | exact .own (by repeat (first | exact List.Mem.head _ | apply List.Mem.tail)) (by decide) (fun _ => rfl)) (by assumption) (by rfl)).q ?_
      refine q_q (by decide) (p_neqs rfl rfl).q ?_
      refine q_nil ?_
      first | refine c_dec rfl (fun h25 => ?_) (fun h25 => ?_) | refine c_cond rfl (fun h25 => ?_) (fun h25 => ?_)
      · skip
        refine c_seq ?_
        refine c_reg ?_
        refine l_q (by decide) (p_assign rfl).q ?_
        refine l_nil ?_
        refine c_ret ?_
        refine c_ret1 rfl rfl (fun w hs => ?_)
        exact ⟨by rw [decide_eq_false (fun h => h25 (by subst h; rw [hr] at ht; injection ht))], hs.ext⟩
      · skip
        refine c_skip ?_
        refine c_reg ?_
        refine l_q (by decide) (p_move rfl).q ?_
        first | refine l_q (by decide) (p_add (j := 1) rfl rfl rfl rfl (by show _ ≤ (9223372036854775807 : Nat); omega)).q ?_ | refine l_q (by decide) (p_addi rfl rfl (by show (-9223372036854775808 : Int) ≤ _; omega) (by show _ ≤ ((9223372036854775807 : Nat) : Int); omega)).q ?_
        refine l_q (by decide) (p_assign rfl).q ?_
        refine l_nil ?_
        refine c_join (i + 1) ?_ ?_ ?_ ?_
        · exact ⟨⟨by omega, by rw [List.take_add_one, List.take_add_one, he, hr, ht, Decidable.not_not.1 h25]⟩, by omega⟩
        · exact ⟨rfl, rfl, rfl, trivial⟩
        · exact .refl _
        · simp
    · skip
      refine c_exit ?_
      refine c_here ?_
      refine c_seq ?_
      refine c_reg ?_
      refine l_q (by decide) (p_assign rfl).q ?_
      refine l_nil ?_
      refine c_ret ?_
      refine c_ret1 rfl rfl (fun w hs => ?_)
      exact ⟨by rw [List.take_of_length_le (by omega), List.take_of_length_le (by omega)] at he; rw [decide_eq_true he], hs.ext⟩

theorem few_ok (A : Option Addr) (c : Nat) (l : List (List UInt8)) (hl : l.length < 140737488355328) (hsz : ∀ r, r ∈ l → r.length < 140737488355328) (w : World) (hq : Sl 1 strF A l w) :
    Calls Try.prog 11 #[.slice A l.length c] w (Ret fun v w' => v = .bool (Wal.few l) ∧ Ext [] w w') := by
  refine calls_fx (l := [.slice A l.length c]) Try.func11 rfl Try.ntmps11 (Nat.le_of_ble_eq_true rfl) ((St.start w).old hq (dep_sl (by decide) hq)) ?_
  refine c_seq ?_
  refine c_reg ?_
  refine l_q (by decide) (p_assign rfl).q ?_
  refine l_nil ?_
  refine c_seq ?_
  refine c_reg ?_
  refine l_q (by decide) (p_assign (v := .int .i64 ((0 : Nat) : Int)) rfl).q ?_
  refine l_nil ?_
  refine c_seq ?_
  refine c_seq ?_
  refine c_reg ?_
  refine l_q (by decide) (p_assign (v := .int .i64 ((0 : Nat) : Int)) rfl).q ?_
  refine l_nil ?_
  refine c_block ?_
  refine c_loop (S := Nat × Nat) (fun s => s.1 ≤ l.length ∧ s.2 ≤ 3000 ∧ Wal.fewGo 0 l = Wal.fewGo s.2 (l.drop s.1)) (fun s => l.length - s.1) (fun s => [(0, .slice A l.length c), (3, .int .i64 (s.2 : Int)), (4, .int .i64 (s.1 : Int))]) (fun s => []) (fun s => [Sl 1 strF A l]) (0, 0) ?_ ?_ ?_ ?_ ?_
  · exact ⟨Nat.zero_le _, Nat.zero_le _, rfl⟩
  · exact ⟨rfl, rfl, rfl, trivial⟩
  · exact .refl _
  · simp
  intro ⟨i, k⟩ ⟨hi, hk, he⟩
  refine c_seq ?_
  refine c_seq ?_
  have hi : i ≤ l.length := hi
  have hk : k ≤ 3000 := hk
  have he : Wal.fewGo 0 l = Wal.fewGo k (l.drop i) := he
  refine c_reg ?_
  refine l_q (by decide) (p_move rfl).q ?_
  refine l_q (by decide) (p_move rfl).q ?_
  refine l_q (by decide) (p_len_sl Try.underlying22 rfl).q ?_
  first | refine l_q (by decide) (p_lss rfl rfl rfl rfl).q ?_ | refine l_q (by decide) (p_lssi rfl rfl).q ?_
  refine l_nil ?_
  first | refine c_dec rfl (fun h8 => ?_) (fun h8 => ?_) | refine c_cond rfl (fun h8 => ?_) (fun h8 => ?_)
  · skip
    have h8 : i < l.length := h8
    obtain ⟨r, hr⟩ : ∃ r, l[i]? = some r := ⟨_, List.getElem?_eq_getElem h8⟩
    have hrl := hsz r (List.mem_of_getElem? hr)
    refine c_skip ?_
    refine c_seq ?_
    refine c_block ?_
    refine c_seq ?_
    refine c_reg ?_
    refine l_q (by decide) (p_move rfl).q ?_
    refine l_q (by decide) (p_move rfl).q ?_
    refine l_q (by decide) (p_move rfl).q ?_
    first | refine l_q (by decide) (r_index Try.underlying22 inf_9 rfl rfl rfl (by first | exact .fact (by repeat (first | exact List.Mem.head _ | apply List.Mem.tail)) | exact .own (by repeat (first | exact List.Mem.head _ | apply List.Mem.tail)) (by decide) (fun _ => rfl)) rfl (by omega)).q ?_ | refine l_q (by decide) (p_indexo Try.underlying22 inf_9 rfl rfl rfl (by omega)).q ?_
    first | refine l_q (by decide) (r_loado Try.underlying9 rfl rfl (by repeat (first | exact List.Mem.head _ | apply List.Mem.tail)) (by rfl)).q ?_ | refine l_q (by decide) (r_load1 Try.underlying9 rfl rfl (by first | exact .fact (by repeat (first | exact List.Mem.head _ | apply List.Mem.tail)) | exact .own (by repeat (first | exact List.Mem.head _ | apply List.Mem.tail)) (by decide) (fun _ => rfl)) (by assumption) (by rfl)).q ?_ | refine l_q (by decide) (r_loadf Try.underlying9 rfl rfl (by first | exact .fact (by repeat (first | exact List.Mem.head _ | apply List.Mem.tail)) | exact .own (by repeat (first | exact List.Mem.head _ | apply List.Mem.tail)) (by decide) (fun _ => rfl)) (by assumption) (by rfl)).q ?_
    refine l_q (by decide) (p_len_str Try.underlying9 rfl).q ?_
    first | refine l_q (by decide) (p_add rfl rfl rfl rfl (by show _ ≤ (9223372036854775807 : Nat); omega)).q ?_ | refine l_q (by decide) (p_addi rfl rfl (by show (-9223372036854775808 : Int) ≤ _; omega) (by show _ ≤ ((9223372036854775807 : Nat) : Int); omega)).q ?_
    refine l_q (by decide) (p_assign rfl).q ?_
    refine l_nil ?_
    refine c_seq ?_
    refine c_reg ?_
    refine l_q (by decide) (p_move rfl).q ?_
    first | refine l_q (by decide) (p_gtr (j := 3000) rfl rfl rfl rfl).q ?_ | refine l_q (by decide) (p_gtri rfl rfl).q ?_
    refine l_nil ?_
    first | refine c_dec rfl (fun h19 => ?_) (fun h19 => ?_) | refine c_cond rfl (fun h19 => ?_) (fun h19 => ?_)
    · skip
      refine c_seq ?_
      refine c_reg ?_
      refine l_q (by decide) (p_assign rfl).q ?_
      refine l_nil ?_
      refine c_ret ?_
      refine c_ret1 rfl rfl (fun w hs => ?_)
      exact ⟨by rw [Wal.few, he, Wal.few_drop hr, if_pos (show 3000 < k + r.length from h19)]; rfl, hs.ext⟩
    · skip
      refine c_skip ?_
      refine c_reg ?_
      refine l_q (by decide) (p_move rfl).q ?_
      first | refine l_q (by decide) (p_add (j := 1) rfl rfl rfl rfl (by show _ ≤ (9223372036854775807 : Nat); omega)).q ?_ | refine l_q (by decide) (p_addi rfl rfl (by show (-9223372036854775808 : Int) ≤ _; omega) (by show _ ≤ ((9223372036854775807 : Nat) : Int); omega)).q ?_
      refine l_q (by decide) (p_assign rfl).q ?_
      refine l_nil ?_
      refine c_join (i + 1, k + r.length) ?_ ?_ ?_ ?_
      · exact ⟨⟨by show i + 1 ≤ l.length; omega, by have h19 : ¬ 3000 < k + r.length := h19; show k + r.length ≤ 3000; omega, by rw [he, Wal.few_drop hr, if_neg (show ¬ 3000 < k + r.length from h19)]⟩, by show l.length - (i + 1) < l.length - i; omega⟩
      · exact ⟨rfl, rfl, rfl, trivial⟩
      · exact .refl _
      · simp
  · skip
    refine c_exit ?_
    refine c_here ?_
    refine c_seq ?_
    refine c_reg ?_
    refine l_q (by decide) (p_move rfl).q ?_
    refine l_q (by decide) (p_len_sl Try.underlying22 rfl).q ?_
    first | refine l_q (by decide) (p_leq (j := 40) rfl rfl rfl rfl).q ?_ | refine l_q (by decide) (p_leqi rfl rfl).q ?_
    refine l_q (by decide) (p_assign rfl).q ?_
    refine l_nil ?_
    refine c_ret ?_
    refine c_ret1 rfl rfl (fun w hs => ?_)
    exact ⟨by rw [Wal.few, he, List.drop_of_length_le (by have h8 : ¬ i < l.length := h8; omega)]; simp [Wal.fewGo], hs.ext⟩
end Go.Proofs.Ytjpachkjljmljaa
