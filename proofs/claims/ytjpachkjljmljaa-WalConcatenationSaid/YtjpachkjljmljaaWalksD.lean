/- The walks of the write-ahead log, fourth part: the reference decoding; conditions: lengths. -/
import Derived.Test.YtjpachkjljmljaaWalksC
namespace Go.Proofs.Ytjpachkjljmljaa
open Go Go.Fx Go.Proofs

theorem dec2_next (log : List UInt8) (p n : Nat) (acc : List (List UInt8)) (hi : p ≤ log.length) (he : Wal.dec log = acc ++ Wal.dec (log.drop p)) (ha : p = (Wal.enc acc).length) (h8 : 8 ≤ log.length - p) (hn : n = Wal.num (log.drop p)) (h2 : ¬ log.length - p - 8 < n)
    (hs : (log.drop (p + 4)).take (p + 8 - (p + 4)) = Wal.little (Wal.hash 2166136261 ((log.drop p).take (p + 4 - p) ++ (log.drop (p + 8)).take (p + 8 + n - (p + 8))))) :
    (p + 8 + n ≤ log.length ∧ Wal.dec log = (acc ++ [(log.drop (p + 8)).take (p + 8 + n - (p + 8))]) ++ Wal.dec (log.drop (p + 8 + n)) ∧ p + 8 + n = (Wal.enc (acc ++ [(log.drop (p + 8)).take (p + 8 + n - (p + 8))])).length) ∧
      log.length - (p + 8 + n) < log.length - p := by
  obtain ⟨f1, f2, f3⟩ := Wal.ref_form log p n h8 hn h2
  have hd : (log.drop p).length = log.length - p := List.length_drop
  have hgo := Wal.dec_go (log.drop p) (by omega) (by rw [← hn]; omega) (by rw [← f2, ← f3]; exact hs)
  refine ⟨⟨by omega, ?_, ?_⟩, by omega⟩
  · rw [he, hgo, f1, List.drop_drop, ← hn]; simp [Nat.add_assoc]
  · rw [Wal.len_next, ← ha]; simp only [List.length_take, List.length_drop]; omega

theorem decode2_ok (log : List UInt8) (hlen : log.length ≤ 100000) (w : World) :
    Calls Try.prog 17 #[str log] w (Ret fun v w' => ∃ x : Option Addr × Nat, v = .tuple #[.slice x.1 (Wal.dec log).length x.2, .int .i64 ((Wal.enc (Wal.dec log)).length : Int)] ∧ Sl 1 strF x.1 (Wal.dec log) w' ∧ Dep w.heap.size w'.heap.size (Sl 1 strF x.1 (Wal.dec log)) ∧ Ext [] w w') := by
  refine calls_fx (l := [str log]) Try.func17 rfl Try.ntmps17 (Nat.le_of_ble_eq_true rfl) (St.start w) ?_
  refine c_seq ?_
  refine c_reg ?_
  refine l_q (by decide) (p_assign rfl).q ?_
  refine l_q (by decide) (p_assign (v := .int .i64 ((0 : Nat) : Int)) rfl).q ?_
  refine l_nil ?_
  refine c_seq ?_
  refine c_reg ?_
  refine l_q (by decide) (p_assign rfl).q ?_
  refine l_nil ?_
  refine c_seq ?_
  refine c_reg ?_
  refine l_q (by decide) (p_assign (v := .int .i64 ((0 : Nat) : Int)) rfl).q ?_
  refine l_nil ?_
  refine c_seq ?_
  refine c_block ?_
  refine c_sl0 9 1 strF ?_
  refine c_loop (S := Nat × List (List UInt8) × Option Addr × Nat) (fun s => s.1 ≤ log.length ∧ Wal.dec log = s.2.1 ++ Wal.dec (log.drop s.1) ∧ s.1 = (Wal.enc s.2.1).length) (fun s => log.length - s.1) (fun s => [(0, str log), (4, .slice s.2.2.1 s.2.1.length s.2.2.2), (5, .int .i64 (s.1 : Int))]) (fun s => [iSl 9 1 strF s.2.2.1 s.2.2.2 s.2.1]) (fun s => []) (0, [], none, 0) ?_ ?_ ?_ ?_ ?_
  · show (0) ≤ log.length ∧ Wal.dec log = ([]) ++ Wal.dec (log.drop (0)) ∧ (0) = (Wal.enc ([])).length
    exact ⟨Nat.zero_le _, rfl, rfl⟩
  · exact ⟨rfl, rfl, rfl, trivial⟩
  · exact .refl _
  · exact fun _ h => absurd h List.not_mem_nil
  rintro ⟨p, acc, A, c⟩ hinv
  have hinv : p ≤ log.length ∧ Wal.dec log = acc ++ Wal.dec (log.drop p) ∧ p = (Wal.enc acc).length := hinv
  obtain ⟨hi, he, ha⟩ := hinv
  have hacc := Wal.length_enc acc
  have hd : (log.drop p).length = log.length - p := List.length_drop
  have hn := Wal.num_lt (log.drop p)
  show Cont _ _ _ _ [(0, str log), (4, .slice A acc.length c), (5, .int .i64 (p : Int))] [iSl 9 1 strF A c acc] []
  refine c_seq ?_
  refine c_seq ?_
  refine c_reg ?_
  refine l_q (by decide) (p_move rfl).q ?_
  refine l_q (by decide) (p_len_str Try.underlying9 rfl).q ?_
  refine l_q (by decide) (p_move rfl).q ?_
  first | refine l_q (by decide) (p_sub rfl rfl rfl rfl (by omega) (by show _ ≤ (9223372036854775807 : Nat); omega)).q ?_ | refine l_q (by decide) (p_subi rfl rfl (by show (-9223372036854775808 : Int) ≤ _; omega) (by show _ ≤ ((9223372036854775807 : Nat) : Int); omega)).q ?_
  first | refine l_q (by decide) (p_geq (j := 8) rfl rfl rfl rfl).q ?_ | refine l_q (by decide) (p_geqi rfl rfl).q ?_
  refine l_nil ?_
  first | refine c_dec rfl (fun h12 => ?_) (fun h12 => ?_) | refine c_cond rfl (fun h12 => ?_) (fun h12 => ?_)
  · skip
    obtain ⟨a, g0⟩ : ∃ u, log[p + 0]? = some u := ⟨_, List.getElem?_eq_getElem (by omega)⟩
    have l0 := a.toNat_lt
    obtain ⟨b, g1⟩ : ∃ u, log[p + 1]? = some u := ⟨_, List.getElem?_eq_getElem (by omega)⟩
    have l1 := b.toNat_lt
    obtain ⟨e, g2⟩ : ∃ u, log[p + 2]? = some u := ⟨_, List.getElem?_eq_getElem (by omega)⟩
    have l2 := e.toNat_lt
    obtain ⟨d, g3⟩ : ∃ u, log[p + 3]? = some u := ⟨_, List.getElem?_eq_getElem (by omega)⟩
    have l3 := d.toNat_lt
    have hnum := Wal.num_at log p a b e d g0 g1 g2 g3
    refine c_skip ?_
    refine c_block ?_
    refine c_seq ?_
    refine c_draw mixed (by decide +kernel) ?_
    refine q_q (by decide) (p_move rfl).q ?_
    refine q_q (by decide) (p_move rfl).q ?_
    first | refine q_q (by decide) (p_index_str Try.underlying9 rfl rfl rfl (by assumption)).q ?_ | refine q_q (by decide) (p_index_str Try.underlying9 rfl rfl rfl (by simp; rfl)).q ?_
    refine q_q (by decide) (p_convn Try.underlying5 Try.underlying3 rfl rfl (by show _ ≤ (9223372036854775807 : Nat); omega)).q ?_
    refine q_q (by decide) (p_move rfl).q ?_
    refine q_q (by decide) (p_move rfl).q ?_
    first | refine q_q (by decide) (p_add (j := 1) rfl rfl rfl rfl (by show _ ≤ (9223372036854775807 : Nat); omega)).q ?_ | refine q_q (by decide) (p_addi rfl rfl (by show (-9223372036854775808 : Int) ≤ _; omega) (by show _ ≤ ((9223372036854775807 : Nat) : Int); omega)).q ?_
    first | refine q_q (by decide) (p_index_str Try.underlying9 rfl rfl rfl (by assumption)).q ?_ | refine q_q (by decide) (p_index_str Try.underlying9 rfl rfl rfl (by simp; rfl)).q ?_
    refine q_q (by decide) (p_convn Try.underlying5 Try.underlying3 rfl rfl (by show _ ≤ (9223372036854775807 : Nat); omega)).q ?_
    refine q_q (by decide) (p_shl (j := 8) rfl rfl rfl rfl (by decide) (by show _ ≤ (9223372036854775807 : Nat); omega)).q ?_
    first | refine q_q (by decide) (p_add rfl rfl rfl rfl (by show _ ≤ (9223372036854775807 : Nat); omega)).q ?_ | refine q_q (by decide) (p_addi rfl rfl (by show (-9223372036854775808 : Int) ≤ _; omega) (by show _ ≤ ((9223372036854775807 : Nat) : Int); omega)).q ?_
    refine q_q (by decide) (p_move rfl).q ?_
    refine q_q (by decide) (p_move rfl).q ?_
    first | refine q_q (by decide) (p_add (j := 2) rfl rfl rfl rfl (by show _ ≤ (9223372036854775807 : Nat); omega)).q ?_ | refine q_q (by decide) (p_addi rfl rfl (by show (-9223372036854775808 : Int) ≤ _; omega) (by show _ ≤ ((9223372036854775807 : Nat) : Int); omega)).q ?_
    first | refine q_q (by decide) (p_index_str Try.underlying9 rfl rfl rfl (by assumption)).q ?_ | refine q_q (by decide) (p_index_str Try.underlying9 rfl rfl rfl (by simp; rfl)).q ?_
    refine q_q (by decide) (p_convn Try.underlying5 Try.underlying3 rfl rfl (by show _ ≤ (9223372036854775807 : Nat); omega)).q ?_
    refine q_q (by decide) (p_shl (j := 16) rfl rfl rfl rfl (by decide) (by show _ ≤ (9223372036854775807 : Nat); omega)).q ?_
    first | refine q_q (by decide) (p_add rfl rfl rfl rfl (by show _ ≤ (9223372036854775807 : Nat); omega)).q ?_ | refine q_q (by decide) (p_addi rfl rfl (by show (-9223372036854775808 : Int) ≤ _; omega) (by show _ ≤ ((9223372036854775807 : Nat) : Int); omega)).q ?_
    refine q_q (by decide) (p_move rfl).q ?_
    refine q_q (by decide) (p_move rfl).q ?_
    first | refine q_q (by decide) (p_add (j := 3) rfl rfl rfl rfl (by show _ ≤ (9223372036854775807 : Nat); omega)).q ?_ | refine q_q (by decide) (p_addi rfl rfl (by show (-9223372036854775808 : Int) ≤ _; omega) (by show _ ≤ ((9223372036854775807 : Nat) : Int); omega)).q ?_
    first | refine q_q (by decide) (p_index_str Try.underlying9 rfl rfl rfl (by assumption)).q ?_ | refine q_q (by decide) (p_index_str Try.underlying9 rfl rfl rfl (by simp; rfl)).q ?_
    refine q_q (by decide) (p_convn Try.underlying5 Try.underlying3 rfl rfl (by show _ ≤ (9223372036854775807 : Nat); omega)).q ?_
    refine q_q (by decide) (p_shl (j := 24) rfl rfl rfl rfl (by decide) (by show _ ≤ (9223372036854775807 : Nat); omega)).q ?_
    first | refine q_q (by decide) (p_add rfl rfl rfl rfl (by show _ ≤ (9223372036854775807 : Nat); omega)).q ?_ | refine q_q (by decide) (p_addi rfl rfl (by show (-9223372036854775808 : Int) ≤ _; omega) (by show _ ≤ ((9223372036854775807 : Nat) : Int); omega)).q ?_
    refine q_q (by decide) (p_assign rfl).q ?_
    refine q_nil ?_
    refine c_seq ?_
    refine c_seq ?_
    generalize a.toNat + b.toNat * 2 ^ 8 + e.toNat * 2 ^ 16 + d.toNat * 2 ^ 24 = k at hnum ⊢
    have hk : k < 4294967296 := by rw [hnum]; exact hn
    refine c_reg ?_
    refine l_q (by decide) (p_move rfl).q ?_
    refine l_q (by decide) (p_move rfl).q ?_
    refine l_q (by decide) (p_len_str Try.underlying9 rfl).q ?_
    refine l_q (by decide) (p_move rfl).q ?_
    first | refine l_q (by decide) (p_sub rfl rfl rfl rfl (by omega) (by show _ ≤ (9223372036854775807 : Nat); omega)).q ?_ | refine l_q (by decide) (p_subi rfl rfl (by show (-9223372036854775808 : Int) ≤ _; omega) (by show _ ≤ ((9223372036854775807 : Nat) : Int); omega)).q ?_
    first | refine l_q (by decide) (p_sub (j := 8) rfl rfl rfl rfl (by omega) (by show _ ≤ (9223372036854775807 : Nat); omega)).q ?_ | refine l_q (by decide) (p_subi rfl rfl (by show (-9223372036854775808 : Int) ≤ _; omega) (by show _ ≤ ((9223372036854775807 : Nat) : Int); omega)).q ?_
    first | refine l_q (by decide) (p_gtr rfl rfl rfl rfl).q ?_ | refine l_q (by decide) (p_gtri rfl rfl).q ?_
    refine l_nil ?_
    first | refine c_dec rfl (fun h44 => ?_) (fun h44 => ?_) | refine c_cond rfl (fun h44 => ?_) (fun h44 => ?_)
    · skip
      refine c_exit ?_
      refine c_out (by decide) ?_
      refine c_here ?_
      refine c_seq ?_
      refine c_reg ?_
      refine l_q (by decide) (p_move rfl).q ?_
      refine l_q (by decide) (p_move rfl).q ?_
      refine l_q (by decide) (p_assign rfl).q ?_
      refine l_q (by decide) (p_assign rfl).q ?_
      refine l_nil ?_
      refine c_ret ?_
      refine c_ret2 rfl rfl rfl (fun w hs => ?_)
      have e : Wal.dec log = acc := by
        rw [he, Wal.dec_stop2 _ (by rw [← hnum]; omega), List.append_nil]
      rw [e]
      have hg := hs.give (List.mem_cons_self ..) (by decide) (fun _ => rfl)
      exact ⟨(A, c), by rw [ha], hg.1, hg.2.1, hs.ext⟩
    · skip
      have hform := Wal.ref_form log p _ h12 hnum h44
      refine c_skip ?_
      refine c_seq ?_
      refine c_reg ?_
      refine l_q (by decide) (p_move rfl).q ?_
      refine l_q (by decide) (p_move rfl).q ?_
      first | refine l_q (by decide) (p_add (j := 8) rfl rfl rfl rfl (by show _ ≤ (9223372036854775807 : Nat); omega)).q ?_ | refine l_q (by decide) (p_addi rfl rfl (by show (-9223372036854775808 : Int) ≤ _; omega) (by show _ ≤ ((9223372036854775807 : Nat) : Int); omega)).q ?_
      refine l_q (by decide) (p_move rfl).q ?_
      first | refine l_q (by decide) (p_add (j := 8) rfl rfl rfl rfl (by show _ ≤ (9223372036854775807 : Nat); omega)).q ?_ | refine l_q (by decide) (p_addi rfl rfl (by show (-9223372036854775808 : Int) ≤ _; omega) (by show _ ≤ ((9223372036854775807 : Nat) : Int); omega)).q ?_
      refine l_q (by decide) (p_move rfl).q ?_
      first | refine l_q (by decide) (p_add rfl rfl rfl rfl (by show _ ≤ (9223372036854775807 : Nat); omega)).q ?_ | refine l_q (by decide) (p_addi rfl rfl (by show (-9223372036854775808 : Int) ≤ _; omega) (by show _ ≤ ((9223372036854775807 : Nat) : Int); omega)).q ?_
      first | refine l_q (by decide) (p_slice_lh Try.underlying9 rfl rfl rfl rfl rfl (by omega) (by omega)).q ?_ | refine l_q (by decide) (p_slice_lh Try.underlying9 rfl rfl rfl rfl rfl (by omega) (by simp; omega)).q ?_
      refine l_q (by decide) (p_assign rfl).q ?_
      refine l_nil ?_
      refine c_seq ?_
      refine c_seq ?_
      refine c_draw mixed (by decide +kernel) ?_
      refine q_q (by decide) (p_move rfl).q ?_
      refine q_q (by decide) (p_move rfl).q ?_
      first | refine q_q (by decide) (p_add (j := 4) rfl rfl rfl rfl (by show _ ≤ (9223372036854775807 : Nat); omega)).q ?_ | refine q_q (by decide) (p_addi rfl rfl (by show (-9223372036854775808 : Int) ≤ _; omega) (by show _ ≤ ((9223372036854775807 : Nat) : Int); omega)).q ?_
      refine q_q (by decide) (p_move rfl).q ?_
      first | refine q_q (by decide) (p_add (j := 8) rfl rfl rfl rfl (by show _ ≤ (9223372036854775807 : Nat); omega)).q ?_ | refine q_q (by decide) (p_addi rfl rfl (by show (-9223372036854775808 : Int) ≤ _; omega) (by show _ ≤ ((9223372036854775807 : Nat) : Int); omega)).q ?_
      first | refine q_q (by decide) (p_slice_lh Try.underlying9 rfl rfl rfl rfl rfl (by omega) (by omega)).q ?_ | refine q_q (by decide) (p_slice_lh Try.underlying9 rfl rfl rfl rfl rfl (by omega) (by simp; omega)).q ?_
      refine q_q (by decide) (p_move rfl).q ?_
      refine q_q (by decide) (p_move rfl).q ?_
      refine q_q (by decide) (p_move rfl).q ?_
      first | refine q_q (by decide) (p_add (j := 4) rfl rfl rfl rfl (by show _ ≤ (9223372036854775807 : Nat); omega)).q ?_ | refine q_q (by decide) (p_addi rfl rfl (by show (-9223372036854775808 : Int) ≤ _; omega) (by show _ ≤ ((9223372036854775807 : Nat) : Int); omega)).q ?_
      first | refine q_q (by decide) (p_slice_lh Try.underlying9 rfl rfl rfl rfl rfl (by omega) (by omega)).q ?_ | refine q_q (by decide) (p_slice_lh Try.underlying9 rfl rfl rfl rfl rfl (by omega) (by simp; omega)).q ?_
      refine q_q (by decide) (p_move rfl).q ?_
      first | refine q_q (by decide) (p_cat rfl rfl (by omega)).q ?_ | refine q_q (by decide) (p_cat rfl rfl (by simp; omega)).q ?_
      refine q_q (by decide) (q_call call_24 rfl (fun w hs => hash_ok _ (by simp only [List.length_append, List.length_take, List.length_drop]; omega) w)) ?_
      refine q_q (by decide) (q_call call_23 rfl (fun w hs => little_ok _ (Wal.hash_lt _ _ (by decide)) w)) ?_
      refine q_q (by decide) (p_neqs rfl rfl).q ?_
      refine q_nil ?_
      first | refine c_dec rfl (fun h68 => ?_) (fun h68 => ?_) | refine c_cond rfl (fun h68 => ?_) (fun h68 => ?_)
      · skip
        refine c_exit ?_
        refine c_out (by decide) ?_
        refine c_here ?_
        refine c_seq ?_
        refine c_reg ?_
        refine l_q (by decide) (p_move rfl).q ?_
        refine l_q (by decide) (p_move rfl).q ?_
        refine l_q (by decide) (p_assign rfl).q ?_
        refine l_q (by decide) (p_assign rfl).q ?_
        refine l_nil ?_
        refine c_ret ?_
        refine c_ret2 rfl rfl rfl (fun w hs => ?_)
        have e : Wal.dec log = acc := by
          rw [he, Wal.dec_stop3 _ (by rw [← hform.2.1, ← hform.2.2]; exact h68), List.append_nil]
        rw [e]
        have hg := hs.give (List.mem_cons_self ..) (by decide) (fun _ => rfl)
        exact ⟨(A, c), by rw [ha], hg.1, hg.2.1, hs.ext⟩
      · skip
        have hsum := Decidable.not_not.1 h68
        refine c_skip ?_
        refine c_seq ?_
        refine c_reg ?_
        refine l_q (by decide) (p_move rfl).q ?_
        refine l_q (by decide) (p_move rfl).q ?_
        refine l_buildSlice (by decide) Try.underlying22 inf_9 (by decide) (by decide) rfl rfl rfl rfl (fun b71 => ?_)
        first | (refine l_append1 ((log.drop (p + 8)).take (p + 8 + k - (p + 8))) (by decide) Try.underlying22 inf_9 rfl (by decide) rfl rfl rfl rfl rfl rfl (by omega) (by omega) (fun A72 c72 hA72 => ?_)) | (refine l_perm (.cons _ (front1 _ _ _)) ?_; refine l_append1 ((log.drop (p + 8)).take (p + 8 + k - (p + 8))) (by decide) Try.underlying22 inf_9 rfl (by decide) rfl rfl rfl rfl rfl rfl (by omega) (by omega) (fun A72 c72 hA72 => ?_)) | (refine l_perm (.cons _ (front2 _ _ _ _)) ?_; refine l_append1 ((log.drop (p + 8)).take (p + 8 + k - (p + 8))) (by decide) Try.underlying22 inf_9 rfl (by decide) rfl rfl rfl rfl rfl rfl (by omega) (by omega) (fun A72 c72 hA72 => ?_))
        refine l_q (by decide) (p_assign rfl).q ?_
        refine l_nil ?_
        refine c_reg ?_
        refine l_q (by decide) (p_move rfl).q ?_
        first | refine l_q (by decide) (p_add (j := 8) rfl rfl rfl rfl (by show _ ≤ (9223372036854775807 : Nat); omega)).q ?_ | refine l_q (by decide) (p_addi rfl rfl (by show (-9223372036854775808 : Int) ≤ _; omega) (by show _ ≤ ((9223372036854775807 : Nat) : Int); omega)).q ?_
        refine l_q (by decide) (p_move rfl).q ?_
        first | refine l_q (by decide) (p_add rfl rfl rfl rfl (by show _ ≤ (9223372036854775807 : Nat); omega)).q ?_ | refine l_q (by decide) (p_addi rfl rfl (by show (-9223372036854775808 : Int) ≤ _; omega) (by show _ ≤ ((9223372036854775807 : Nat) : Int); omega)).q ?_
        refine l_q (by decide) (p_assign rfl).q ?_
        refine l_nil ?_
        refine c_join ((p + 8 + k), (acc ++ [(log.drop (p + 8)).take (p + 8 + k - (p + 8))]), (A72), (c72)) ?_ ?_ ?_ ?_
        · show ((p + 8 + k) ≤ log.length ∧ Wal.dec log = (acc ++ [(log.drop (p + 8)).take (p + 8 + k - (p + 8))]) ++ Wal.dec (log.drop (p + 8 + k)) ∧ (p + 8 + k) = (Wal.enc (acc ++ [(log.drop (p + 8)).take (p + 8 + k - (p + 8))])).length) ∧ log.length - (p + 8 + k) < log.length - p
          exact dec2_next log p _ acc hi he ha h12 hnum h44 hsum
        · show SubL [(0, str log), (4, .slice (A72) (acc ++ [(log.drop (p + 8)).take (p + 8 + k - (p + 8))]).length (c72)), (5, .int .i64 ((p + 8 + k) : Int))] _
          exact ⟨rfl, rfl, rfl, trivial⟩
        · show List.Perm _ [iSl 9 1 strF (A72) (c72) (acc ++ [(log.drop (p + 8)).take (p + 8 + k - (p + 8))])]
          exact .refl _
        · exact fun _ h => absurd h List.not_mem_nil
  · skip
    refine c_exit ?_
    refine c_here ?_
    refine c_seq ?_
    refine c_reg ?_
    refine l_q (by decide) (p_move rfl).q ?_
    refine l_q (by decide) (p_move rfl).q ?_
    refine l_q (by decide) (p_assign rfl).q ?_
    refine l_q (by decide) (p_assign rfl).q ?_
    refine l_nil ?_
    refine c_ret ?_
    refine c_ret2 rfl rfl rfl (fun w hs => ?_)
    have e : Wal.dec log = acc := by
      rw [he, Wal.dec_short _ (by omega), List.append_nil]
    rw [e]
    have hg := hs.give (List.mem_cons_self ..) (by decide) (fun _ => rfl)
    exact ⟨(A, c), by rw [ha], hg.1, hg.2.1, hs.ext⟩
end Go.Proofs.Ytjpachkjljmljaa
