/- The walks of the write-ahead log, third part: decoding; conditions: lengths. -/
import Derived.Test.YtjpachkjljmljaaWalksB
namespace Go.Proofs.Ytjpachkjljmljaa
open Go Go.Fx Go.Proofs
theorem decode_ok (log : List UInt8) (hlen : log.length ≤ 100000) (w : World) :
    Calls Try.prog 16 #[str log] w (Ret fun v w' => ∃ x : Option Addr × Nat, v = .tuple #[.slice x.1 (Wal.dec log).length x.2, .int .i64 ((Wal.enc (Wal.dec log)).length : Int)] ∧ Sl 1 strF x.1 (Wal.dec log) w' ∧ Dep w.heap.size w'.heap.size (Sl 1 strF x.1 (Wal.dec log)) ∧ Ext [] w w') := by
  refine calls_fx (l := [str log]) Try.func16 rfl Try.ntmps16 (Nat.le_of_ble_eq_true rfl) (St.start w) ?_
  refine c_seq ?_
  refine c_reg ?_
  refine l_q (by decide) (p_assign rfl).q ?_
  refine l_q (by decide) (p_assign (v := .int .i64 ((0 : Nat) : Int)) rfl).q ?_
  refine l_nil ?_
  refine c_seq ?_
  refine c_reg ?_
  refine l_q (by decide) (p_assign rfl).q ?_
  refine l_nil ?_
  refine c_seq ?_
  refine c_reg ?_
  refine l_q (by decide) (p_assign (v := .int .i64 ((0 : Nat) : Int)) rfl).q ?_
  refine l_nil ?_
  refine c_block ?_
  refine c_sl0 9 1 strF ?_
  refine c_loop (S := Nat × List (List UInt8) × Option Addr × Nat) (fun s => s.1 ≤ log.length ∧ Wal.dec log = s.2.1 ++ Wal.dec (log.drop s.1) ∧ s.1 = (Wal.enc s.2.1).length) (fun s => log.length - s.1) (fun s => [(0, str log), (4, .slice s.2.2.1 s.2.1.length s.2.2.2), (5, .int .i64 (s.1 : Int))]) (fun s => [iSl 9 1 strF s.2.2.1 s.2.2.2 s.2.1]) (fun s => []) (0, [], none, 0) ?_ ?_ ?_ ?_ ?_
  · show (0) ≤ log.length ∧ Wal.dec log = ([]) ++ Wal.dec (log.drop (0)) ∧ (0) = (Wal.enc ([])).length
    exact ⟨Nat.zero_le _, rfl, rfl⟩
  · exact ⟨rfl, rfl, rfl, trivial⟩
  · exact .refl _
  · exact fun _ h => absurd h List.not_mem_nil
  rintro ⟨p, acc, A, c⟩ hinv
  have hinv : p ≤ log.length ∧ Wal.dec log = acc ++ Wal.dec (log.drop p) ∧ p = (Wal.enc acc).length := hinv
  obtain ⟨hi, he, ha⟩ := hinv
  have hacc := Wal.length_enc acc
  have hd : (log.drop p).length = log.length - p := List.length_drop
  have hn := Wal.num_lt (log.drop p)
  show Cont _ _ _ _ [(0, str log), (4, .slice A acc.length c), (5, .int .i64 (p : Int))] [iSl 9 1 strF A c acc] []
  refine c_block ?_
  refine c_seq ?_
  refine c_reg ?_
  refine l_q (by decide) (p_move rfl).q ?_
  refine l_q (by decide) (p_move rfl).q ?_
  first | refine l_q (by decide) (p_slice_l Try.underlying9 rfl rfl rfl (by omega)).q ?_ | refine l_q (by decide) (p_slice_l Try.underlying9 rfl rfl rfl (by simp; omega)).q ?_
  refine l_q (by decide) (p_assign rfl).q ?_
  refine l_nil ?_
  refine c_seq ?_
  refine c_seq ?_
  refine c_reg ?_
  refine l_q (by decide) (p_move rfl).q ?_
  refine l_q (by decide) (p_len_str Try.underlying9 rfl).q ?_
  first | refine l_q (by decide) (p_lss (j := 8) rfl rfl rfl rfl).q ?_ | refine l_q (by decide) (p_lssi rfl rfl).q ?_
  refine l_nil ?_
  first | refine c_dec rfl (fun h14 => ?_) (fun h14 => ?_) | refine c_cond rfl (fun h14 => ?_) (fun h14 => ?_)
  · skip
    refine c_seq ?_
    refine c_reg ?_
    refine l_q (by decide) (p_move rfl).q ?_
    refine l_q (by decide) (p_move rfl).q ?_
    refine l_q (by decide) (p_assign rfl).q ?_
    refine l_q (by decide) (p_assign rfl).q ?_
    refine l_nil ?_
    refine c_ret ?_
    refine c_ret2 rfl rfl rfl (fun w hs => ?_)
    have e : Wal.dec log = acc := by
      rw [he, Wal.dec_short _ h14, List.append_nil]
    rw [e]
    have hg := hs.give (List.mem_cons_self ..) (by decide) (fun _ => rfl)
    exact ⟨(A, c), by rw [ha], hg.1, hg.2.1, hs.ext⟩
  · skip
    refine c_skip ?_
    refine c_seq ?_
    refine c_reg ?_
    refine l_q (by decide) (p_move rfl).q ?_
    refine l_q (by decide) (q_call call_25 rfl (fun w hs => number_ok _ (by omega) w)) ?_
    refine l_q (by decide) (p_assign rfl).q ?_
    refine l_nil ?_
    refine c_seq ?_
    refine c_seq ?_
    refine c_reg ?_
    refine l_q (by decide) (p_move rfl).q ?_
    refine l_q (by decide) (p_move rfl).q ?_
    refine l_q (by decide) (p_len_str Try.underlying9 rfl).q ?_
    first | refine l_q (by decide) (p_sub (j := 8) rfl rfl rfl rfl (by omega) (by show _ ≤ (9223372036854775807 : Nat); omega)).q ?_ | refine l_q (by decide) (p_subi rfl rfl (by show (-9223372036854775808 : Int) ≤ _; omega) (by show _ ≤ ((9223372036854775807 : Nat) : Int); omega)).q ?_
    first | refine l_q (by decide) (p_convn Try.underlying3 Try.underlying47 rfl rfl (by show _ ≤ (18446744073709551615 : Nat); omega)).q ?_ | refine l_q (by decide) (p_convm Try.underlying3 Try.underlying47 rfl rfl rfl).q ?_
    first | refine l_q (by decide) (p_gtr rfl rfl rfl rfl).q ?_ | refine l_q (by decide) (p_gtri rfl rfl).q ?_
    refine l_nil ?_
    first | refine c_dec rfl (fun h24 => ?_) (fun h24 => ?_) | refine c_cond rfl (fun h24 => ?_) (fun h24 => ?_)
    · skip
      refine c_seq ?_
      refine c_reg ?_
      refine l_q (by decide) (p_move rfl).q ?_
      refine l_q (by decide) (p_move rfl).q ?_
      refine l_q (by decide) (p_assign rfl).q ?_
      refine l_q (by decide) (p_assign rfl).q ?_
      refine l_nil ?_
      refine c_ret ?_
      refine c_ret2 rfl rfl rfl (fun w hs => ?_)
      have e : Wal.dec log = acc := by
        rw [he, Wal.dec_stop2 _ h24, List.append_nil]
      rw [e]
      have hg := hs.give (List.mem_cons_self ..) (by decide) (fun _ => rfl)
      exact ⟨(A, c), by rw [ha], hg.1, hg.2.1, hs.ext⟩
    · skip
      refine c_skip ?_
      refine c_seq ?_
      refine c_reg ?_
      refine l_q (by decide) (p_move rfl).q ?_
      refine l_q (by decide) (p_move rfl).q ?_
      refine l_q (by decide) (p_convn Try.underlying47 Try.underlying3 rfl rfl (by show _ ≤ (9223372036854775807 : Nat); omega)).q ?_
      first | refine l_q (by decide) (p_add (i := 8) rfl rfl rfl rfl (by show _ ≤ (9223372036854775807 : Nat); omega)).q ?_ | refine l_q (by decide) (p_addi rfl rfl (by show (-9223372036854775808 : Int) ≤ _; omega) (by show _ ≤ ((9223372036854775807 : Nat) : Int); omega)).q ?_
      first | refine l_q (by decide) (p_slice_lh (i := 8) Try.underlying9 rfl rfl rfl rfl rfl (by omega) (by omega)).q ?_ | refine l_q (by decide) (p_slice_lh (i := 8) Try.underlying9 rfl rfl rfl rfl rfl (by omega) (by simp; omega)).q ?_
      refine l_q (by decide) (p_assign rfl).q ?_
      refine l_nil ?_
      refine c_seq ?_
      refine c_seq ?_
      have hrl : (((log.drop p).drop 8).take (8 + Wal.num (log.drop p) - 8)).length < 4294967296 := by simp only [List.length_take, List.length_drop]; omega
      refine c_draw mixed (by decide +kernel) ?_
      refine q_q (by decide) (p_move rfl).q ?_
      first | refine q_q (by decide) (p_slice_lh (i := 4) (j := 8) Try.underlying9 rfl rfl rfl rfl rfl (by omega) (by omega)).q ?_ | refine q_q (by decide) (p_slice_lh (i := 4) (j := 8) Try.underlying9 rfl rfl rfl rfl rfl (by omega) (by simp; omega)).q ?_
      refine q_q (by decide) (p_move rfl).q ?_
      refine q_q (by decide) (q_call call_22 rfl (fun w hs => checksum_ok (((log.drop p).drop 8).take (8 + Wal.num (log.drop p) - 8)) hrl w)) ?_
      refine q_q (by decide) (p_neqs rfl rfl).q ?_
      refine q_nil ?_
      first | refine c_dec rfl (fun h36 => ?_) (fun h36 => ?_) | refine c_cond rfl (fun h36 => ?_) (fun h36 => ?_)
      · skip
        refine c_seq ?_
        refine c_reg ?_
        refine l_q (by decide) (p_move rfl).q ?_
        refine l_q (by decide) (p_move rfl).q ?_
        refine l_q (by decide) (p_assign rfl).q ?_
        refine l_q (by decide) (p_assign rfl).q ?_
        refine l_nil ?_
        refine c_ret ?_
        refine c_ret2 rfl rfl rfl (fun w hs => ?_)
        have e : Wal.dec log = acc := by
          rw [he, Wal.dec_stop3 _ (by rw [show 8 + Wal.num (log.drop p) - 8 = Wal.num (log.drop p) by omega] at h36; exact h36), List.append_nil]
        rw [e]
        have hg := hs.give (List.mem_cons_self ..) (by decide) (fun _ => rfl)
        exact ⟨(A, c), by rw [ha], hg.1, hg.2.1, hs.ext⟩
      · skip
        have h36 := Decidable.not_not.1 h36
        have hgo := Wal.dec_go (log.drop p) h14 h24 (by have h := h36; rw [show 8 + Wal.num (log.drop p) - 8 = Wal.num (log.drop p) by omega] at h; exact h)
        refine c_skip ?_
        refine c_seq ?_
        refine c_reg ?_
        refine l_q (by decide) (p_move rfl).q ?_
        refine l_q (by decide) (p_move rfl).q ?_
        refine l_buildSlice (by decide) Try.underlying22 inf_9 (by decide) (by decide) rfl rfl rfl rfl (fun b41 => ?_)
        first | (refine l_append1 (((log.drop p).drop 8).take (8 + Wal.num (log.drop p) - 8)) (by decide) Try.underlying22 inf_9 rfl (by decide) rfl rfl rfl rfl rfl rfl (by omega) (by omega) (fun A42 c42 hA42 => ?_)) | (refine l_perm (.cons _ (front1 _ _ _)) ?_; refine l_append1 (((log.drop p).drop 8).take (8 + Wal.num (log.drop p) - 8)) (by decide) Try.underlying22 inf_9 rfl (by decide) rfl rfl rfl rfl rfl rfl (by omega) (by omega) (fun A42 c42 hA42 => ?_)) | (refine l_perm (.cons _ (front2 _ _ _ _)) ?_; refine l_append1 (((log.drop p).drop 8).take (8 + Wal.num (log.drop p) - 8)) (by decide) Try.underlying22 inf_9 rfl (by decide) rfl rfl rfl rfl rfl rfl (by omega) (by omega) (fun A42 c42 hA42 => ?_))
        refine l_q (by decide) (p_assign rfl).q ?_
        refine l_nil ?_
        refine c_reg ?_
        refine l_q (by decide) (p_move rfl).q ?_
        refine l_q (by decide) (p_move rfl).q ?_
        refine l_q (by decide) (p_convn Try.underlying47 Try.underlying3 rfl rfl (by show _ ≤ (9223372036854775807 : Nat); omega)).q ?_
        first | refine l_q (by decide) (p_add (i := 8) rfl rfl rfl rfl (by show _ ≤ (9223372036854775807 : Nat); omega)).q ?_ | refine l_q (by decide) (p_addi rfl rfl (by show (-9223372036854775808 : Int) ≤ _; omega) (by show _ ≤ ((9223372036854775807 : Nat) : Int); omega)).q ?_
        first | refine l_q (by decide) (p_add rfl rfl rfl rfl (by show _ ≤ (9223372036854775807 : Nat); omega)).q ?_ | refine l_q (by decide) (p_addi rfl rfl (by show (-9223372036854775808 : Int) ≤ _; omega) (by show _ ≤ ((9223372036854775807 : Nat) : Int); omega)).q ?_
        refine l_q (by decide) (p_assign rfl).q ?_
        refine l_nil ?_
        refine c_join ((p + (8 + Wal.num (log.drop p))), (acc ++ [((log.drop p).drop 8).take (8 + Wal.num (log.drop p) - 8)]), (A42), (c42)) ?_ ?_ ?_ ?_
        · show ((p + (8 + Wal.num (log.drop p))) ≤ log.length ∧ Wal.dec log = (acc ++ [((log.drop p).drop 8).take (8 + Wal.num (log.drop p) - 8)]) ++ Wal.dec (log.drop (p + (8 + Wal.num (log.drop p)))) ∧ (p + (8 + Wal.num (log.drop p))) = (Wal.enc (acc ++ [((log.drop p).drop 8).take (8 + Wal.num (log.drop p) - 8)])).length) ∧ log.length - (p + (8 + Wal.num (log.drop p))) < log.length - p
          refine ⟨⟨by omega, ?_, ?_⟩, by omega⟩
          · rw [he, hgo, List.drop_drop]; simp
          · rw [Wal.len_next, ← ha]; simp only [List.length_take, List.length_drop]; omega
        · show SubL [(0, str log), (4, .slice (A42) (acc ++ [((log.drop p).drop 8).take (8 + Wal.num (log.drop p) - 8)]).length (c42)), (5, .int .i64 ((p + (8 + Wal.num (log.drop p))) : Int))] _
          exact ⟨rfl, rfl, rfl, trivial⟩
        · show List.Perm _ [iSl 9 1 strF (A42) (c42) (acc ++ [((log.drop p).drop 8).take (8 + Wal.num (log.drop p) - 8)])]
          exact .refl _
        · exact fun _ h => absurd h List.not_mem_nil
end Go.Proofs.Ytjpachkjljmljaa
