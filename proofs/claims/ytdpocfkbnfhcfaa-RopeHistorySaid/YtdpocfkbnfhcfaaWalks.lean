/- The walks of ropes, first part; conditions: lengths. -/
import Derived.Test.YtdpocfkbnfhcfaaShelf
import Derived.Test.YtdpocfkbnfhcfaaTree
namespace Go.Proofs.Ytdpocfkbnfhcfaa
open Go Go.Fx Go.Proofs

theorem noEscape (x : Value) (w : World) : (callFunc 44 #[x]).run Try.prog w = .ok (.value x) w := by kernel_rfl
def tab8 : List UInt8 := ([0, 1, 2, 2, 3, 3, 3, 3, 4, 4, 4, 4, 4, 4, 4, 4, 5, 5, 5, 5, 5, 5, 5, 5, 5, 5, 5, 5, 5, 5, 5, 5, 6, 6, 6, 6, 6, 6, 6, 6, 6, 6, 6, 6, 6, 6, 6, 6, 6, 6, 6, 6, 6, 6, 6, 6, 6, 6, 6, 6, 6, 6, 6, 6].append [7, 7, 7, 7, 7, 7, 7, 7, 7, 7, 7, 7, 7, 7, 7, 7, 7, 7, 7, 7, 7, 7, 7, 7, 7, 7, 7, 7, 7, 7, 7, 7, 7, 7, 7, 7, 7, 7, 7, 7, 7, 7, 7, 7, 7, 7, 7, 7, 7, 7, 7, 7, 7, 7, 7, 7, 7, 7, 7, 7, 7, 7, 7, 7]).append ([8, 8, 8, 8, 8, 8, 8, 8, 8, 8, 8, 8, 8, 8, 8, 8, 8, 8, 8, 8, 8, 8, 8, 8, 8, 8, 8, 8, 8, 8, 8, 8, 8, 8, 8, 8, 8, 8, 8, 8, 8, 8, 8, 8, 8, 8, 8, 8, 8, 8, 8, 8, 8, 8, 8, 8, 8, 8, 8, 8, 8, 8, 8, 8].append [8, 8, 8, 8, 8, 8, 8, 8, 8, 8, 8, 8, 8, 8, 8, 8, 8, 8, 8, 8, 8, 8, 8, 8, 8, 8, 8, 8, 8, 8, 8, 8, 8, 8, 8, 8, 8, 8, 8, 8, 8, 8, 8, 8, 8, 8, 8, 8, 8, 8, 8, 8, 8, 8, 8, 8, 8, 8, 8, 8, 8, 8, 8, 8])
theorem tab8_all : (List.range 256).all (fun j => match tab8[j]? with | some u => decide (u.toNat ≤ 8) && decide (j < 2 ^ u.toNat) && (decide (u.toNat = 0) || decide (2 ^ (u.toNat - 1) ≤ j)) | none => false) = true := by decide +kernel
theorem tab8_at {n : Nat} (h : n < 256) : ∃ u : UInt8, tab8[n]? = some u ∧ u.toNat = Rope.blen n := by
  have := List.all_eq_true.1 tab8_all n (List.mem_range.2 h)
  split at this
  · rename_i u hu
    simp only [Bool.and_eq_true, decide_eq_true_eq, Bool.or_eq_true] at this
    exact ⟨u, hu, (blen_is this.1.2 this.2).symm⟩
  · cases this
abbrev bldI (b : Nat) (a A : Option Addr) (l : List UInt8) (c : Nat) : Fx.Own := [iCells b 70 [.pointer a, .slice A l.length c], iSl 5 1 byteF A c l]
theorem mixed : Try.prog.follows .mixedOrders = true := by kernel_rfl
theorem inf_3 : InfoIs Try.prog 3 1 8 (.int .i64 0) := by unfold InfoIs; kernel_rfl
theorem inf_5 : InfoIs Try.prog 5 1 1 (.int .u8 0) := by unfold InfoIs; kernel_rfl
theorem inf_24 : InfoIs Try.prog 24 1 8 (.pointer none) := by unfold InfoIs; kernel_rfl
theorem inf_64 : InfoIs Try.prog 64 5 48 (.agg #[.string ⟨#[]⟩, .pointer none, .pointer none, .int .i64 0, .int .i64 0]) := by unfold InfoIs; kernel_rfl
theorem inf_67 : InfoIs Try.prog 67 1 8 (.pointer none) := by unfold InfoIs; kernel_rfl
theorem inf_68 : InfoIs Try.prog 68 1 24 (.slice none 0 0) := by unfold InfoIs; kernel_rfl
theorem inf_70 : InfoIs Try.prog 70 2 32 (.agg #[.pointer none, .slice none 0 0]) := by unfold InfoIs; kernel_rfl
theorem pl_64 : PlacesIs Try.prog 64 [(0, 1), (1, 1), (2, 1), (3, 1), (4, 1)] := ⟨_, Try.underlying64, by kernel_rfl⟩
theorem call_40 : Callable Try.prog 40 := ⟨_, Try.func40, by kernel_rfl, rfl⟩
theorem call_41 : Callable Try.prog 41 := ⟨_, Try.func41, by kernel_rfl, rfl⟩
theorem call_43 : Callable Try.prog 43 := ⟨_, Try.func43, by kernel_rfl, rfl⟩
theorem copyCheck_ok (b : Nat) (a : Option Addr) (ha : a = none ∨ a = some ⟨b, 0, none⟩) (v0 : Value) (ρ : Facts) (w : World) (h : St w [b] w [iCells b 70 [.pointer a, v0]] ρ) :
   Calls Try.prog 41 #[.pointer (some ⟨b, 0, none⟩)] w (Ret fun v w' => ∃ (_ : Unit) (ρ' : Facts), v = .tuple #[] ∧ St w [b] w' [iCells b 70 [.pointer (some ⟨b, 0, none⟩), v0]] ρ') := by
 refine calls_fx (l := [.pointer (some ⟨b, 0, none⟩)]) Try.func41 rfl Try.ntmps41 (Nat.le_of_ble_eq_true rfl) h ?_
 refine c_seq ?_
 refine c_reg ?_
 refine l_q (by decide) (p_move rfl).q ?_
 refine l_q (by decide) (p_nilp rfl).q ?_
 first | refine l_q (by decide) (p_faddr (i := 0) 0 Try.underlying70 rfl inf_67 (by decide) rfl rfl).q ?_ | refine l_q (by decide) (p_faddro (i := 0) 0 Try.underlying70 rfl inf_67 (by decide) rfl rfl).q ?_
 first | refine l_q (by decide) (r_loado Try.underlying67 rfl rfl (by repeat constructor) (by rfl)).q ?_ | refine l_q (by decide) (r_load1 Try.underlying67 rfl rfl (by first | exact .fact (by repeat constructor) | exact .own (by repeat constructor) (by decide) (fun _ => rfl)) (by first | assumption | rfl) (by rfl)).q ?_ | refine l_q (by decide) (r_loadf Try.underlying67 rfl rfl (by first | exact .fact (by repeat constructor) | exact .own (by repeat constructor) (by decide) (fun _ => rfl)) (by assumption) (by rfl)).q ?_
 first | refine l_q (by decide) (p_eqpn Try.underlying67 rfl rfl).q ?_ | refine l_q (by decide) (p_eqps Try.underlying67 inf_70 rfl rfl).q ?_
 refine l_nil ?_
 first | refine c_dec rfl (fun h6 => ?_) (fun h6 => ?_) | refine c_cond rfl (fun h6 => ?_) (fun h6 => ?_)
 ·skip
  obtain rfl : a = none := by cases a <;> simp_all
  refine c_reg ?_
  refine l_q (by decide) (p_move rfl).q ?_
  refine l_q (by decide) (p_move rfl).q ?_
  refine l_q (by decide) (r_toUnsafe Try.underlying67 Try.underlying81 inf_70 (by decide) rfl (by repeat constructor) (Nat.le_of_ble_eq_true rfl)).q ?_
  refine l_q (by decide) (p_ext (us := [.pointer (some ⟨b, 0, none⟩)]) rfl (fun w => noEscape _ w)).q ?_
  refine l_q (by decide) (r_fromUnsafe Try.underlying81 Try.underlying67 inf_70 rfl (by repeat constructor) (by kernel_rfl)).q ?_
  refine l_q (by decide) (p_nilp rfl).q ?_
  first | refine l_q (by decide) (p_faddr (i := 0) 0 Try.underlying70 rfl inf_67 (by decide) rfl rfl).q ?_ | refine l_q (by decide) (p_faddro (i := 0) 0 Try.underlying70 rfl inf_67 (by decide) rfl rfl).q ?_
  first | (refine l_store inf_67 rfl rfl rfl rfl (by first | decide | exact Nat.le_of_ble_eq_true rfl | (simp; done) | omega | (simp only [Nat.mul_one]; assumption)) ?_) | (refine l_perm (front1 _ _ _) ?_; refine l_store inf_67 rfl rfl rfl rfl (by first | decide | exact Nat.le_of_ble_eq_true rfl | (simp; done) | omega | (simp only [Nat.mul_one]; assumption)) ?_) | (refine l_perm (front2 _ _ _ _) ?_; refine l_store inf_67 rfl rfl rfl rfl (by first | decide | exact Nat.le_of_ble_eq_true rfl | (simp; done) | omega | (simp only [Nat.mul_one]; assumption)) ?_) | (refine l_perm (front3 _ _ _ _ _) ?_; refine l_store inf_67 rfl rfl rfl rfl (by first | decide | exact Nat.le_of_ble_eq_true rfl | (simp; done) | omega | (simp only [Nat.mul_one]; assumption)) ?_) | (refine l_perm (front4 _ _ _ _ _ _) ?_; refine l_store inf_67 rfl rfl rfl rfl (by first | decide | exact Nat.le_of_ble_eq_true rfl | (simp; done) | omega | (simp only [Nat.mul_one]; assumption)) ?_)
  refine l_nil ?_
  refine c_ret0 rfl (fun w hs => ?_)
  exact ⟨(), ρ, rfl, hs⟩
 ·skip
  obtain rfl : a = some ⟨b, 0, none⟩ := by cases a <;> simp_all
  refine c_seq ?_
  refine c_reg ?_
  refine l_q (by decide) (p_move rfl).q ?_
  refine l_q (by decide) (p_nilp rfl).q ?_
  first | refine l_q (by decide) (p_faddr (i := 0) 0 Try.underlying70 rfl inf_67 (by decide) rfl rfl).q ?_ | refine l_q (by decide) (p_faddro (i := 0) 0 Try.underlying70 rfl inf_67 (by decide) rfl rfl).q ?_
  first | refine l_q (by decide) (r_loado Try.underlying67 rfl rfl (by repeat constructor) (by rfl)).q ?_ | refine l_q (by decide) (r_load1 Try.underlying67 rfl rfl (by first | exact .fact (by repeat constructor) | exact .own (by repeat constructor) (by decide) (fun _ => rfl)) (by first | assumption | rfl) (by rfl)).q ?_ | refine l_q (by decide) (r_loadf Try.underlying67 rfl rfl (by first | exact .fact (by repeat constructor) | exact .own (by repeat constructor) (by decide) (fun _ => rfl)) (by assumption) (by rfl)).q ?_
  refine l_q (by decide) (p_move rfl).q ?_
  first | refine l_q (by decide) (p_neqpn Try.underlying67 rfl rfl).q ?_ | refine l_q (by decide) (p_neqps Try.underlying67 inf_70 rfl rfl).q ?_
  refine l_nil ?_
  refine c_false rfl ?_
  refine c_skip ?_
  refine c_ret0 rfl (fun w hs => ?_)
  exact ⟨(), ρ, rfl, hs⟩

theorem writeString_ok (b : Nat) (a A : Option Addr) (c : Nat) (l s : List UInt8) (ha : a = none ∨ a = some ⟨b, 0, none⟩) (hl : l.length + s.length ≤ 140737488355328) (ρ : Facts) (w : World) (h : St w (keysOf (bldI b a A (l) c)) w (bldI b a A (l) c) ρ) :
   Calls Try.prog 38 #[.pointer (some ⟨b, 0, none⟩), str s] w (Ret fun v w' => ∃ (x : Option Addr × Nat) (ρ' : Facts), v = .tuple #[.int .i64 (s.length : Int), .nilIface] ∧ St w (keysOf (bldI b a A (l) c)) w' (bldI b (some ⟨b, 0, none⟩) x.1 (l ++ s) x.2) ρ') := by
 refine calls_fx (l := [.pointer (some ⟨b, 0, none⟩), str s]) Try.func38 rfl Try.ntmps38 (Nat.le_of_ble_eq_true rfl) h ?_
 refine c_seq ?_
 refine c_reg ?_
 refine l_q (by decide) (p_assign (v := .int .i64 ((0 : Nat) : Int)) rfl).q ?_
 refine l_q (by decide) (p_assign rfl).q ?_
 refine l_nil ?_
 refine c_seq ?_
 refine c_reg ?_
 refine l_q (by decide) (p_move rfl).q ?_
 refine l_callo (τ := [iCells b 70 [.pointer a, .slice A l.length c]]) (σ := [iSl 5 1 byteF A c l]) (fun _ => .tuple #[]) (fun _ : Unit => [iCells b 70 [.pointer (some ⟨b, 0, none⟩), .slice A l.length c]]) (by decide) call_41 rfl (fun w hs => copyCheck_ok b a ha _ _ w hs) (fun _ => ?_)
 refine l_nil ?_
 refine c_seq ?_
 refine c_reg ?_
 refine l_q (by decide) (p_move rfl).q ?_
 refine l_q (by decide) (p_move rfl).q ?_
 refine l_q (by decide) (p_nilp rfl).q ?_
 first | refine l_q (by decide) (p_faddr (i := 1) 1 Try.underlying70 rfl inf_68 (by decide) rfl rfl).q ?_ | refine l_q (by decide) (p_faddro (i := 1) 1 Try.underlying70 rfl inf_68 (by decide) rfl rfl).q ?_
 first | refine l_q (by decide) (r_loado Try.underlying68 rfl rfl (by repeat constructor) (by rfl)).q ?_ | refine l_q (by decide) (r_load1 Try.underlying68 rfl rfl (by first | exact .fact (by repeat constructor) | exact .own (by repeat constructor) (by decide) (fun _ => rfl)) (by first | assumption | rfl) (by rfl)).q ?_ | refine l_q (by decide) (r_loadf Try.underlying68 rfl rfl (by first | exact .fact (by repeat constructor) | exact .own (by repeat constructor) (by decide) (fun _ => rfl)) (by assumption) (by rfl)).q ?_
 refine l_q (by decide) (p_move rfl).q ?_
 first | (refine l_append_str (by decide) Try.underlying68 Try.underlying9 inf_5 rfl rfl rfl (by omega) (fun A14 c14 => ?_)) | (refine l_perm (front1 _ _ _) ?_; refine l_append_str (by decide) Try.underlying68 Try.underlying9 inf_5 rfl rfl rfl (by omega) (fun A14 c14 => ?_)) | (refine l_perm (front2 _ _ _ _) ?_; refine l_append_str (by decide) Try.underlying68 Try.underlying9 inf_5 rfl rfl rfl (by omega) (fun A14 c14 => ?_))
 refine l_q (by decide) (p_nilp rfl).q ?_
 first | refine l_q (by decide) (p_faddr (i := 1) 1 Try.underlying70 rfl inf_68 (by decide) rfl rfl).q ?_ | refine l_q (by decide) (p_faddro (i := 1) 1 Try.underlying70 rfl inf_68 (by decide) rfl rfl).q ?_
 first | (refine l_store inf_68 rfl rfl rfl rfl (by first | decide | exact Nat.le_of_ble_eq_true rfl | (simp; done) | omega | (simp only [Nat.mul_one]; assumption)) ?_) | (refine l_perm (front1 _ _ _) ?_; refine l_store inf_68 rfl rfl rfl rfl (by first | decide | exact Nat.le_of_ble_eq_true rfl | (simp; done) | omega | (simp only [Nat.mul_one]; assumption)) ?_) | (refine l_perm (front2 _ _ _ _) ?_; refine l_store inf_68 rfl rfl rfl rfl (by first | decide | exact Nat.le_of_ble_eq_true rfl | (simp; done) | omega | (simp only [Nat.mul_one]; assumption)) ?_) | (refine l_perm (front3 _ _ _ _ _) ?_; refine l_store inf_68 rfl rfl rfl rfl (by first | decide | exact Nat.le_of_ble_eq_true rfl | (simp; done) | omega | (simp only [Nat.mul_one]; assumption)) ?_) | (refine l_perm (front4 _ _ _ _ _ _) ?_; refine l_store inf_68 rfl rfl rfl rfl (by first | decide | exact Nat.le_of_ble_eq_true rfl | (simp; done) | omega | (simp only [Nat.mul_one]; assumption)) ?_)
 refine l_nil ?_
 refine c_seq ?_
 refine c_reg ?_
 refine l_q (by decide) (p_move rfl).q ?_
 refine l_q (by decide) (p_len_str Try.underlying9 rfl).q ?_
 refine l_q (by decide) (p_assign rfl).q ?_
 refine l_q (by decide) (p_assign rfl).q ?_
 refine l_nil ?_
 refine c_ret ?_
 refine c_ret2 rfl rfl rfl (fun w hs => ?_)
 exact ⟨(A14, c14), ρ, rfl, hs⟩

theorem string_ok (b : Nat) (a A : Option Addr) (c : Nat) (l : List UInt8) (ha : a = none ∨ a = some ⟨b, 0, none⟩) (w0 w : World) (ρ : Facts) (hs : St w0 [] w (bldI b a A l c) ρ) :
    Calls Try.prog 39 #[.pointer (some ⟨b, 0, none⟩)] w (Ret fun v w' => v = str l ∧ Ext [] w0 w') := by
  have h1 := hs.own _ (List.mem_cons_self ..)
  have h2 := hs.own _ (List.mem_cons_of_mem _ (List.mem_cons_self ..))
  have hb : w0.heap.size ≤ b := by simpa using (h1.2.2 b (by simp [iCells])).2
  have hrow : w.ownsRow w0.heap.size 5 1 (.slice A l.length c) (Lib.byteCells l).length (Lib.byteCells l) := by
    have h3 : w.ownsRow 0 5 1 (.slice A l.length c) l.length (l.flatMap byteF) := h2.1
    have e : Lib.byteCells l = l.flatMap byteF := by rw [← bytesV_eq]; simp [Lib.byteCells, bytesV]
    rw [e]
    rw [show (l.flatMap byteF).length = l.length by rw [← bytesV_eq]; simp [bytesV]]
    refine ⟨h3.1, ?_⟩
    rcases h3.2 with h4 | ⟨g, cap, cur, hv, hg, hh, hr⟩
    · exact .inl h4
    · refine .inr ⟨g, cap, cur, hv, ?_, hh, hr⟩
      have := (h2.2.2 g (by simp [iSl, iRow, hv, Value.ownBlock])).2
      simpa using this
  have hne : (Value.slice A l.length c).ownBlock ≠ some b := fun e => by
    have hn := hs.nodup
    have hk : b ∈ (iSl 5 1 byteF A c l).keys := by simp [iSl, iRow, e]
    simp only [keysOf, iCells, List.cons_append, List.nil_append, List.append_nil] at hn
    exact (List.nodup_cons.1 hn).1 hk
  have hB : Lib.IsBuilder 70 5 w0.heap.size b (Lib.byteCells l) w := by
    have hh : w.heap[b]? = some (.cells #[.pointer a, .slice A l.length c] 70 (0, 0)) := h1.1
    rcases ha with rfl | rfl
    · exact .inl ⟨hb, _, hh, hrow, hne⟩
    · exact .inr ⟨hb, _, hh, hrow, hne⟩
  refine (Try.Builder_String_any w0.heap.size b l w hB hs.ext.size).mono ?_
  rintro e w' ⟨rfl, h⟩
  exact ⟨rfl, ⟨h.os.trans hs.ext.os, h.tape.trans hs.ext.tape, h.output.trans hs.ext.output, Nat.le_trans hs.ext.size h.size, fun k hk hn => (h.block k hk).trans (hs.ext.block k hk hn)⟩⟩

theorem len64_ok (n : Nat) (hn : n < 256) (w : World) :
   Calls Try.prog 43 #[.int .u64 (n : Int)] w (Ret fun v w' => v = .int .i64 ((Rope.blen n : Nat) : Int) ∧ Ext [] w w') := by
 obtain ⟨u8, htab, hu8⟩ := tab8_at hn
 have hb8 := UInt8.toNat_lt u8
 refine calls_fx (l := [.int .u64 (n : Int)]) Try.func43 rfl Try.ntmps43 (Nat.le_of_ble_eq_true rfl) (St.start w) ?_
 refine c_seq ?_
 refine c_reg ?_
 refine l_q (by decide) (p_assign (v := .int .i64 ((0 : Nat) : Int)) rfl).q ?_
 refine l_nil ?_
 refine c_seq ?_
 refine c_seq ?_
 refine c_reg ?_
 refine l_q (by decide) (p_move rfl).q ?_
 first | refine l_q (by decide) (((p_geq (j := 4294967296) rfl rfl rfl rfl)).to (u := .bool false) (by rw [decide_eq_false (by omega)])).q ?_ | refine l_q (by decide) (((p_geqi rfl rfl)).to (u := .bool false) (by rw [decide_eq_false (by omega)])).q ?_
 refine l_nil ?_
 refine c_false rfl ?_
 refine c_skip ?_
 refine c_seq ?_
 refine c_seq ?_
 refine c_reg ?_
 refine l_q (by decide) (p_move rfl).q ?_
 first | refine l_q (by decide) (((p_geq (j := 65536) rfl rfl rfl rfl)).to (u := .bool false) (by rw [decide_eq_false (by omega)])).q ?_ | refine l_q (by decide) (((p_geqi rfl rfl)).to (u := .bool false) (by rw [decide_eq_false (by omega)])).q ?_
 refine l_nil ?_
 refine c_false rfl ?_
 refine c_skip ?_
 refine c_seq ?_
 refine c_seq ?_
 refine c_reg ?_
 refine l_q (by decide) (p_move rfl).q ?_
 first | refine l_q (by decide) (((p_geq (j := 256) rfl rfl rfl rfl)).to (u := .bool false) (by rw [decide_eq_false (by omega)])).q ?_ | refine l_q (by decide) (((p_geqi rfl rfl)).to (u := .bool false) (by rw [decide_eq_false (by omega)])).q ?_
 refine l_nil ?_
 refine c_false rfl ?_
 refine c_skip ?_
 refine c_seq ?_
 refine c_reg ?_
 refine l_q (by decide) (p_move rfl).q ?_
 refine l_q (by decide) (p_move rfl).q ?_
 first | refine l_q (by decide) (p_convn Try.underlying80 Try.underlying5 rfl rfl (by show _ ≤ (255 : Nat); omega)).q ?_ | refine l_q (by decide) (p_convm Try.underlying80 Try.underlying5 rfl rfl rfl).q ?_
 refine l_q (by decide) (p_index_str (l := tab8) (j := n) (u := u8) Try.underlying9 rfl rfl rfl htab).q ?_
 refine l_q (by decide) (((p_convn Try.underlying5 Try.underlying3 rfl rfl (by show _ ≤ (9223372036854775807 : Nat); omega))).to (u := .int .i64 ((Rope.blen n : Nat) : Int)) (by rw [hu8])).q ?_
 first | refine l_q (by decide) (((p_add rfl rfl rfl rfl (by show _ ≤ (9223372036854775807 : Nat); omega))).to (u := .int .i64 ((Rope.blen n : Nat) : Int)) (by rw [Nat.zero_add])).q ?_ | refine l_q (by decide) (((p_addi rfl rfl (by show (-9223372036854775808 : Int) ≤ _; omega) (by show _ ≤ ((9223372036854775807 : Nat) : Int); omega))).to (u := .int .i64 ((Rope.blen n : Nat) : Int)) (by rw [Nat.zero_add])).q ?_
 refine l_q (by decide) (p_assign rfl).q ?_
 refine l_nil ?_
 refine c_ret ?_
 refine c_ret1 rfl rfl (fun w hs => ?_)
 exact ⟨rfl, hs.ext⟩

theorem len_ok (n : Nat) (hn : n < 256) (w : World) :
   Calls Try.prog 40 #[.int .u64 (n : Int)] w (Ret fun v w' => v = .int .i64 ((Rope.blen n : Nat) : Int) ∧ Ext [] w w') := by
 refine calls_fx (l := [.int .u64 (n : Int)]) Try.func40 rfl Try.ntmps40 (Nat.le_of_ble_eq_true rfl) (St.start w) ?_
 refine c_seq ?_
 refine c_reg ?_
 refine l_q (by decide) (p_assign (v := .int .i64 ((0 : Nat) : Int)) rfl).q ?_
 refine l_nil ?_
 refine c_seq ?_
 refine c_false rfl ?_
 refine c_skip ?_
 refine c_seq ?_
 refine c_reg ?_
 refine l_q (by decide) (p_move rfl).q ?_
 refine l_q (by decide) (q_call call_43 rfl (fun w hs => len64_ok n hn w)) ?_
 refine l_q (by decide) (p_assign rfl).q ?_
 refine l_nil ?_
 refine c_ret ?_
 refine c_ret1 rfl rfl (fun w hs => ?_)
 exact ⟨rfl, hs.ext⟩

theorem bound_ok (n : Nat) (hn : n ≤ 16000) (w : World) :
   Calls Try.prog 36 #[.int .i64 (n : Int)] w (Ret fun v w' => v = .int .i64 ((Rope.bound n : Nat) : Int) ∧ Ext [] w w') := by
 refine calls_fx (l := [.int .i64 (n : Int)]) Try.func36 rfl Try.ntmps36 (Nat.le_of_ble_eq_true rfl) (St.start w) ?_
 refine c_seq ?_
 refine c_reg ?_
 refine l_q (by decide) (p_assign (v := .int .i64 ((0 : Nat) : Int)) rfl).q ?_
 refine l_nil ?_
 refine c_seq ?_
 refine c_seq ?_
 refine c_reg ?_
 refine l_q (by decide) (p_move rfl).q ?_
 first | refine l_q (by decide) (p_leq (j := 64) rfl rfl rfl rfl).q ?_ | refine l_q (by decide) (p_leqi rfl rfl).q ?_
 refine l_nil ?_
 first | refine c_dec rfl (fun h5 => ?_) (fun h5 => ?_) | refine c_cond rfl (fun h5 => ?_) (fun h5 => ?_)
 ·skip
  refine c_seq ?_
  refine c_reg ?_
  refine l_q (by decide) (p_assign (v := .int .i64 ((0 : Nat) : Int)) rfl).q ?_
  refine l_nil ?_
  refine c_ret ?_
  refine c_ret1 rfl rfl (fun w hs => ?_)
  exact ⟨by unfold Rope.bound; rw [if_pos (by omega)], hs.ext⟩
 ·skip
  have hb8 := blen_le8 hn
  have hbk : 1 ≤ Rope.blocks n ∧ Rope.blocks n ≤ 300 := by unfold Rope.blocks; omega
  refine c_skip ?_
  refine c_seq ?_
  refine c_reg ?_
  refine l_q (by decide) (p_move rfl).q ?_
  first | refine l_q (by decide) (p_add (j := 64) rfl rfl rfl rfl (by show _ ≤ (9223372036854775807 : Nat); omega)).q ?_ | refine l_q (by decide) (p_addi rfl rfl (by show (-9223372036854775808 : Int) ≤ _; omega) (by show _ ≤ ((9223372036854775807 : Nat) : Int); omega)).q ?_
  first | refine l_q (by decide) (p_sub (j := 1) rfl rfl rfl rfl (by omega) (by show _ ≤ (9223372036854775807 : Nat); omega)).q ?_ | refine l_q (by decide) (p_subi rfl rfl (by show (-9223372036854775808 : Int) ≤ _; omega) (by show _ ≤ ((9223372036854775807 : Nat) : Int); omega)).q ?_
  refine l_q (by decide) (p_quo (j := 64) rfl rfl rfl rfl (by omega) (by show _ ≤ (9223372036854775807 : Nat); omega)).q ?_
  refine l_q (by decide) (((p_assign rfl)).to (u := .int .i64 ((Rope.blocks n : Nat) : Int)) (rfl)).q ?_
  refine l_nil ?_
  refine c_seq ?_
  refine c_reg ?_
  refine l_q (by decide) (p_move rfl).q ?_
  first | refine l_q (by decide) (p_sub (j := 1) rfl rfl rfl rfl (by omega) (by show _ ≤ (9223372036854775807 : Nat); omega)).q ?_ | refine l_q (by decide) (p_subi rfl rfl (by show (-9223372036854775808 : Int) ≤ _; omega) (by show _ ≤ ((9223372036854775807 : Nat) : Int); omega)).q ?_
  first | refine l_q (by decide) (p_convn Try.underlying3 Try.underlying65 rfl rfl (by show _ ≤ (18446744073709551615 : Nat); omega)).q ?_ | refine l_q (by decide) (p_convm Try.underlying3 Try.underlying65 rfl rfl rfl).q ?_
  refine l_q (by decide) (q_call call_40 rfl (fun w hs => len_ok (Rope.blocks n - 1) (by unfold Rope.blocks; omega) w)) ?_
  refine l_q (by decide) (p_mul (i := 2) rfl rfl rfl rfl (by show _ ≤ (9223372036854775807 : Nat); omega)).q ?_
  first | refine l_q (by decide) (p_add (j := 2) rfl rfl rfl rfl (by show _ ≤ (9223372036854775807 : Nat); omega)).q ?_ | refine l_q (by decide) (p_addi rfl rfl (by show (-9223372036854775808 : Int) ≤ _; omega) (by show _ ≤ ((9223372036854775807 : Nat) : Int); omega)).q ?_
  refine l_q (by decide) (p_assign rfl).q ?_
  refine l_nil ?_
  refine c_ret ?_
  refine c_ret1 rfl rfl (fun w hs => ?_)
  exact ⟨by unfold Rope.bound; rw [if_neg (by omega)], hs.ext⟩

theorem leaf_ok (s : List UInt8) (hs0 : s.length ≤ 16000) (σ : Fx.Own) (w : World) (h : St w (keysOf σ) w σ []) :
   Calls Try.prog 34 #[str s] w (Ret fun v w' => ∃ x : TO (if s = [] then none else some (.leaf s)), v = ptrO x.1 ∧ St w (keysOf σ) w' σ [liesO x.1]) := by
 refine calls_fx (l := [str s]) Try.func34 rfl Try.ntmps34 (Nat.le_of_ble_eq_true rfl) h ?_
 refine c_seq ?_
 refine c_reg ?_
 refine l_q (by decide) (p_assign rfl).q ?_
 refine l_nil ?_
 refine c_seq ?_
 refine c_seq ?_
 refine c_reg ?_
 refine l_q (by decide) (p_move rfl).q ?_
 refine l_q (by decide) (p_eqs rfl rfl).q ?_
 refine l_nil ?_
 first | refine c_dec rfl (fun h4 => ?_) (fun h4 => ?_) | refine c_cond rfl (fun h4 => ?_) (fun h4 => ?_)
 ·skip
  refine c_seq ?_
  refine c_reg ?_
  refine l_q (by decide) (p_assign rfl).q ?_
  refine l_nil ?_
  refine c_ret ?_
  refine c_ret1 rfl rfl (fun w hs => ?_)
  exact ⟨⟨none, by rw [if_pos (by assumption)]; rfl⟩, rfl, hs.sure fun _ => trivial⟩
 ·skip
  refine c_skip ?_
  refine c_seq ?_
  refine c_reg ?_
  refine l_q (by decide) (p_move rfl).q ?_
  refine l_q (by decide) (p_move rfl).q ?_
  refine l_q (by decide) (p_len_str Try.underlying9 rfl).q ?_
  refine l_q (by decide) (p_build (cells := #[_, _, _, _, _]) inf_64 pl_64 rfl rfl).q ?_
  refine l_box (by decide) rfl _ rfl (fun b9 => ?_)
  refine l_q (by decide) (p_assign rfl).q ?_
  refine l_nil ?_
  refine c_ret ?_
  refine c_ret1 rfl rfl (fun w hs => ?_)
  exact ⟨⟨some (T.leaf b9 s), by rw [if_neg (by assumption)]; rfl⟩, rfl, T.made_leaf hs rfl⟩

theorem inner_ok (a b : T) (ha : a.pl.size + b.pl.size ≤ 16000) (hga : a.pl.height ≤ 100) (hgb : b.pl.height ≤ 100) (σ : Fx.Own) (w : World) (h : St w (keysOf σ) w σ [liesO (some a), liesO (some b)]) :
   Calls Try.prog 35 #[ptrO (some a), ptrO (some b)] w (Ret fun v w' => ∃ x : { t : T // t.pl = .node a.pl b.pl }, v = ptrO (some x.1) ∧ St w (keysOf σ) w' σ [liesO (some x.1)]) := by
 refine calls_fx (l := [ptrO (some a), ptrO (some b)]) Try.func35 rfl Try.ntmps35 (Nat.le_of_ble_eq_true rfl) h ?_
 refine c_seq ?_
 refine c_reg ?_
 refine l_q (by decide) (p_assign rfl).q ?_
 refine l_nil ?_
 refine c_seq ?_
 refine m_draw [] mixed ?_
 refine m_takep 0 rfl (by kernel_rfl) (by decide) (p_move rfl) ?_
 refine m_takep 1 rfl (by kernel_rfl) (by decide) (p_move rfl) ?_
 refine m_takep 2 rfl (by kernel_rfl) (by decide) (p_move rfl) ?_
 refine m_takep 3 rfl (by kernel_rfl) (by decide) (p_nilp rfl) ?_
 first | refine m_takep 4 rfl (by kernel_rfl) (by decide) (p_faddr (i := 3) 3 Try.underlying64 rfl inf_3 (by decide) rfl rfl) ?_ | refine m_takep 4 rfl (by kernel_rfl) (by decide) (p_faddro (i := 3) 3 Try.underlying64 rfl inf_3 (by decide) rfl rfl) ?_
 refine m_take 5 rfl (by kernel_rfl) (by decide) (by first | exact (List.Perm.refl _ : List.Perm _ ([] ++ _)) | exact (List.Perm.refl _ : List.Perm _ ([_] ++ _)) | exact (List.Perm.refl _ : List.Perm _ ([_, _] ++ _)) | exact (List.Perm.refl _ : List.Perm _ ([_, _, _] ++ _)) | exact (List.Perm.refl _ : List.Perm _ ([_, _, _, _] ++ _)) | exact (List.Perm.refl _ : List.Perm _ ([_, _, _, _, _] ++ _))) (by first | exact fun _ h => h | exact fun _ h => List.mem_cons_of_mem _ h | exact fun _ h => List.mem_cons_of_mem _ (List.mem_cons_of_mem _ h)) (r_loadq (q := liesO (some (a))) Try.underlying3 rfl rfl (by repeat constructor) (fun w h => T.c3 h)).r ?_
 refine m_takep 6 rfl (by kernel_rfl) (by decide) (p_move rfl) ?_
 refine m_takep 7 rfl (by kernel_rfl) (by decide) (p_nilp rfl) ?_
 first | refine m_takep 8 rfl (by kernel_rfl) (by decide) (p_faddr (i := 3) 3 Try.underlying64 rfl inf_3 (by decide) rfl rfl) ?_ | refine m_takep 8 rfl (by kernel_rfl) (by decide) (p_faddro (i := 3) 3 Try.underlying64 rfl inf_3 (by decide) rfl rfl) ?_
 refine m_take 9 rfl (by kernel_rfl) (by decide) (by first | exact (List.Perm.refl _ : List.Perm _ ([] ++ _)) | exact (List.Perm.refl _ : List.Perm _ ([_] ++ _)) | exact (List.Perm.refl _ : List.Perm _ ([_, _] ++ _)) | exact (List.Perm.refl _ : List.Perm _ ([_, _, _] ++ _)) | exact (List.Perm.refl _ : List.Perm _ ([_, _, _, _] ++ _)) | exact (List.Perm.refl _ : List.Perm _ ([_, _, _, _, _] ++ _))) (by first | exact fun _ h => h | exact fun _ h => List.mem_cons_of_mem _ h | exact fun _ h => List.mem_cons_of_mem _ (List.mem_cons_of_mem _ h)) (r_loadq (q := liesO (some (b))) Try.underlying3 rfl rfl (by repeat constructor) (fun w h => T.c3 h)).r ?_
 first | refine m_takep 10 rfl (by kernel_rfl) (by decide) (p_add rfl rfl rfl rfl (by show _ ≤ (9223372036854775807 : Nat); omega)) ?_ | refine m_takep 10 rfl (by kernel_rfl) (by decide) (p_addi rfl rfl (by show (-9223372036854775808 : Int) ≤ _; omega) (by show _ ≤ ((9223372036854775807 : Nat) : Int); omega)) ?_
 refine m_takep 11 rfl (by kernel_rfl) (by decide) (p_move rfl) ?_
 refine m_takep 12 rfl (by kernel_rfl) (by decide) (p_nilp rfl) ?_
 first | refine m_takep 13 rfl (by kernel_rfl) (by decide) (p_faddr (i := 4) 4 Try.underlying64 rfl inf_3 (by decide) rfl rfl) ?_ | refine m_takep 13 rfl (by kernel_rfl) (by decide) (p_faddro (i := 4) 4 Try.underlying64 rfl inf_3 (by decide) rfl rfl) ?_
 refine m_take 14 rfl (by kernel_rfl) (by decide) (by first | exact (List.Perm.refl _ : List.Perm _ ([] ++ _)) | exact (List.Perm.refl _ : List.Perm _ ([_] ++ _)) | exact (List.Perm.refl _ : List.Perm _ ([_, _] ++ _)) | exact (List.Perm.refl _ : List.Perm _ ([_, _, _] ++ _)) | exact (List.Perm.refl _ : List.Perm _ ([_, _, _, _] ++ _)) | exact (List.Perm.refl _ : List.Perm _ ([_, _, _, _, _] ++ _))) (by first | exact fun _ h => h | exact fun _ h => List.mem_cons_of_mem _ h | exact fun _ h => List.mem_cons_of_mem _ (List.mem_cons_of_mem _ h)) (r_loadq (q := liesO (some (a))) Try.underlying3 rfl rfl (by repeat constructor) (fun w h => T.c4 h)).r ?_
 refine m_takep 15 rfl (by kernel_rfl) (by decide) (p_move rfl) ?_
 refine m_takep 16 rfl (by kernel_rfl) (by decide) (p_nilp rfl) ?_
 first | refine m_takep 17 rfl (by kernel_rfl) (by decide) (p_faddr (i := 4) 4 Try.underlying64 rfl inf_3 (by decide) rfl rfl) ?_ | refine m_takep 17 rfl (by kernel_rfl) (by decide) (p_faddro (i := 4) 4 Try.underlying64 rfl inf_3 (by decide) rfl rfl) ?_
 refine m_take 18 rfl (by kernel_rfl) (by decide) (by first | exact (List.Perm.refl _ : List.Perm _ ([] ++ _)) | exact (List.Perm.refl _ : List.Perm _ ([_] ++ _)) | exact (List.Perm.refl _ : List.Perm _ ([_, _] ++ _)) | exact (List.Perm.refl _ : List.Perm _ ([_, _, _] ++ _)) | exact (List.Perm.refl _ : List.Perm _ ([_, _, _, _] ++ _)) | exact (List.Perm.refl _ : List.Perm _ ([_, _, _, _, _] ++ _))) (by first | exact fun _ h => h | exact fun _ h => List.mem_cons_of_mem _ h | exact fun _ h => List.mem_cons_of_mem _ (List.mem_cons_of_mem _ h)) (r_loadq (q := liesO (some (b))) Try.underlying3 rfl rfl (by repeat constructor) (fun w h => T.c4 h)).r ?_
 first | refine m_takep 19 rfl (by kernel_rfl) (by decide) (p_max rfl rfl rfl rfl) ?_ | refine m_takep 19 rfl (by kernel_rfl) (by decide) (p_maxi rfl rfl) ?_
 first | refine m_takep 20 rfl (by kernel_rfl) (by decide) (p_add (i := 1) rfl rfl rfl rfl (by show _ ≤ (9223372036854775807 : Nat); omega)) ?_ | refine m_takep 20 rfl (by kernel_rfl) (by decide) (p_addi rfl rfl (by show (-9223372036854775808 : Int) ≤ _; omega) (by show _ ≤ ((9223372036854775807 : Nat) : Int); omega)) ?_
 refine m_takep 21 rfl (by kernel_rfl) (by decide) (p_build (cells := #[_, _, _, _, _]) inf_64 pl_64 rfl rfl) ?_
 refine m_run 22 rfl (by kernel_rfl) ?_
 refine l_box (by decide) rfl _ rfl (fun b27 => ?_)
 refine l_nil ?_
 refine m_next _ (by first | exact (List.Perm.refl _ : List.Perm _ ([] ++ _)) | exact (List.Perm.refl _ : List.Perm _ ([_] ++ _)) | exact (List.Perm.refl _ : List.Perm _ ([_, _] ++ _)) | exact (List.Perm.refl _ : List.Perm _ ([_, _, _] ++ _)) | exact (List.Perm.refl _ : List.Perm _ ([_, _, _, _] ++ _)) | exact (List.Perm.refl _ : List.Perm _ ([_, _, _, _, _] ++ _))) (by first | exact fun _ h => h | exact fun _ h => List.mem_cons_of_mem _ h | exact fun _ h => List.mem_cons_of_mem _ (List.mem_cons_of_mem _ h)) ?_
 refine m_takep 23 rfl (by kernel_rfl) (by decide) (p_assign rfl) ?_
 refine m_done (by kernel_rfl) ?_
 refine c_ret ?_
 refine c_ret1 rfl rfl (fun w hs => ?_)
 exact ⟨⟨T.node b27 a b, rfl⟩, rfl, T.made_node hs (by simp only [T.row, T.pl, T.size_node, Rope.N.height]; rfl) (by repeat constructor) (by repeat constructor)⟩

theorem len_m (t : Option T) (w : World) (h : liesO t w) :
   Calls Try.prog 23 #[.agg #[ptrO t]] w (Ret fun v w' => v = .int .i64 ((szO t : Nat) : Int) ∧ Ext [] w w') := by
 refine calls_fx (l := [.agg #[ptrO t]]) Try.func23 rfl Try.ntmps23 (Nat.le_of_ble_eq_true rfl) (startO h) ?_
 refine c_seq ?_
 refine c_reg ?_
 refine l_box (by decide) rfl _ rfl (fun b1 => ?_)
 refine l_q (by decide) (p_assign (v := .int .i64 ((0 : Nat) : Int)) rfl).q ?_
 refine l_nil ?_
 refine c_seq ?_
 refine c_seq ?_
 refine c_reg ?_
 first | refine l_q (by decide) (p_faddr (i := 0) 0 Try.underlying26 rfl inf_24 (by decide) rfl rfl).q ?_ | refine l_q (by decide) (p_faddro (i := 0) 0 Try.underlying26 rfl inf_24 (by decide) rfl rfl).q ?_
 first | refine l_q (by decide) (r_loado Try.underlying24 rfl rfl (by repeat constructor) (by rfl)).q ?_ | refine l_q (by decide) (r_load1 Try.underlying24 rfl rfl (by first | exact .fact (by repeat constructor) | exact .own (by repeat constructor) (by decide) (fun _ => rfl)) (by first | assumption | rfl) (by rfl)).q ?_ | refine l_q (by decide) (r_loadf Try.underlying24 rfl rfl (by first | exact .fact (by repeat constructor) | exact .own (by repeat constructor) (by decide) (fun _ => rfl)) (by assumption) (by rfl)).q ?_
 first | refine l_q (by decide) (p_eqpn Try.underlying24 rfl rfl).q ?_ | refine l_q (by decide) (p_eqps Try.underlying24 inf_64 rfl rfl).q ?_
 refine l_nil ?_
 first | refine c_dec rfl (fun h5 => ?_) (fun h5 => ?_) | refine c_cond rfl (fun h5 => ?_) (fun h5 => ?_)
 ·skip
  obtain rfl : t = none := by cases t <;> simp_all [adO]
  refine c_seq ?_
  refine c_reg ?_
  refine l_q (by decide) (p_assign (v := .int .i64 ((0 : Nat) : Int)) rfl).q ?_
  refine l_nil ?_
  refine c_ret ?_
  refine c_ret1 rfl rfl (fun w hs => ?_)
  exact ⟨rfl, hs.ext⟩
 ·skip
  obtain ⟨t, rfl⟩ : ∃ t2, t = some t2 := by cases t <;> simp_all [adO]
  refine c_skip ?_
  refine c_seq ?_
  refine c_reg ?_
  first | refine l_q (by decide) (p_faddr (i := 0) 0 Try.underlying26 rfl inf_24 (by decide) rfl rfl).q ?_ | refine l_q (by decide) (p_faddro (i := 0) 0 Try.underlying26 rfl inf_24 (by decide) rfl rfl).q ?_
  first | refine l_q (by decide) (r_loado Try.underlying24 rfl rfl (by repeat constructor) (by rfl)).q ?_ | refine l_q (by decide) (r_load1 Try.underlying24 rfl rfl (by first | exact .fact (by repeat constructor) | exact .own (by repeat constructor) (by decide) (fun _ => rfl)) (by first | assumption | rfl) (by rfl)).q ?_ | refine l_q (by decide) (r_loadf Try.underlying24 rfl rfl (by first | exact .fact (by repeat constructor) | exact .own (by repeat constructor) (by decide) (fun _ => rfl)) (by assumption) (by rfl)).q ?_
  refine l_q (by decide) (p_nilp rfl).q ?_
  first | refine l_q (by decide) (p_faddr (i := 3) 3 Try.underlying64 rfl inf_3 (by decide) rfl rfl).q ?_ | refine l_q (by decide) (p_faddro (i := 3) 3 Try.underlying64 rfl inf_3 (by decide) rfl rfl).q ?_
  refine l_q (by decide) (r_loadq (q := liesO (some (t))) Try.underlying3 rfl rfl (by repeat constructor) (fun w h => T.c3 h)).q ?_
  refine l_q (by decide) (p_assign rfl).q ?_
  refine l_nil ?_
  refine c_ret ?_
  refine c_ret1 rfl rfl (fun w hs => ?_)
  exact ⟨rfl, hs.ext⟩

theorem height_m (t : Option T) (w : World) (h : liesO t w) :
   Calls Try.prog 24 #[.agg #[ptrO t]] w (Ret fun v w' => v = .int .i64 ((hgO t : Nat) : Int) ∧ Ext [] w w') := by
 refine calls_fx (l := [.agg #[ptrO t]]) Try.func24 rfl Try.ntmps24 (Nat.le_of_ble_eq_true rfl) (startO h) ?_
 refine c_seq ?_
 refine c_reg ?_
 refine l_box (by decide) rfl _ rfl (fun b1 => ?_)
 refine l_q (by decide) (p_assign (v := .int .i64 ((0 : Nat) : Int)) rfl).q ?_
 refine l_nil ?_
 refine c_seq ?_
 refine c_seq ?_
 refine c_reg ?_
 first | refine l_q (by decide) (p_faddr (i := 0) 0 Try.underlying26 rfl inf_24 (by decide) rfl rfl).q ?_ | refine l_q (by decide) (p_faddro (i := 0) 0 Try.underlying26 rfl inf_24 (by decide) rfl rfl).q ?_
 first | refine l_q (by decide) (r_loado Try.underlying24 rfl rfl (by repeat constructor) (by rfl)).q ?_ | refine l_q (by decide) (r_load1 Try.underlying24 rfl rfl (by first | exact .fact (by repeat constructor) | exact .own (by repeat constructor) (by decide) (fun _ => rfl)) (by first | assumption | rfl) (by rfl)).q ?_ | refine l_q (by decide) (r_loadf Try.underlying24 rfl rfl (by first | exact .fact (by repeat constructor) | exact .own (by repeat constructor) (by decide) (fun _ => rfl)) (by assumption) (by rfl)).q ?_
 first | refine l_q (by decide) (p_eqpn Try.underlying24 rfl rfl).q ?_ | refine l_q (by decide) (p_eqps Try.underlying24 inf_64 rfl rfl).q ?_
 refine l_nil ?_
 first | refine c_dec rfl (fun h5 => ?_) (fun h5 => ?_) | refine c_cond rfl (fun h5 => ?_) (fun h5 => ?_)
 ·skip
  obtain rfl : t = none := by cases t <;> simp_all [adO]
  refine c_seq ?_
  refine c_reg ?_
  refine l_q (by decide) (p_assign (v := .int .i64 ((0 : Nat) : Int)) rfl).q ?_
  refine l_nil ?_
  refine c_ret ?_
  refine c_ret1 rfl rfl (fun w hs => ?_)
  exact ⟨rfl, hs.ext⟩
 ·skip
  obtain ⟨t, rfl⟩ : ∃ t2, t = some t2 := by cases t <;> simp_all [adO]
  refine c_skip ?_
  refine c_seq ?_
  refine c_reg ?_
  first | refine l_q (by decide) (p_faddr (i := 0) 0 Try.underlying26 rfl inf_24 (by decide) rfl rfl).q ?_ | refine l_q (by decide) (p_faddro (i := 0) 0 Try.underlying26 rfl inf_24 (by decide) rfl rfl).q ?_
  first | refine l_q (by decide) (r_loado Try.underlying24 rfl rfl (by repeat constructor) (by rfl)).q ?_ | refine l_q (by decide) (r_load1 Try.underlying24 rfl rfl (by first | exact .fact (by repeat constructor) | exact .own (by repeat constructor) (by decide) (fun _ => rfl)) (by first | assumption | rfl) (by rfl)).q ?_ | refine l_q (by decide) (r_loadf Try.underlying24 rfl rfl (by first | exact .fact (by repeat constructor) | exact .own (by repeat constructor) (by decide) (fun _ => rfl)) (by assumption) (by rfl)).q ?_
  refine l_q (by decide) (p_nilp rfl).q ?_
  first | refine l_q (by decide) (p_faddr (i := 4) 4 Try.underlying64 rfl inf_3 (by decide) rfl rfl).q ?_ | refine l_q (by decide) (p_faddro (i := 4) 4 Try.underlying64 rfl inf_3 (by decide) rfl rfl).q ?_
  refine l_q (by decide) (r_loadq (q := liesO (some (t))) Try.underlying3 rfl rfl (by repeat constructor) (fun w h => T.c4 h)).q ?_
  refine l_q (by decide) (p_assign rfl).q ?_
  refine l_nil ?_
  refine c_ret ?_
  refine c_ret1 rfl rfl (fun w hs => ?_)
  exact ⟨rfl, hs.ext⟩
end Go.Proofs.Ytdpocfkbnfhcfaa
