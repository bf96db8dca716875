/- The walks of textdiff, fourth part; conditions: lengths. -/
import Derived.Test.YtnkmemoagimddaaWalksC
import Derived.Test.YtnkmemoagimddaaMore
namespace Go.Proofs.Ytnkmemoagimddaa
open Go Go.Fx Go.Proofs

def edF (e : Td.E) : List Value := [.int .i64 (e.at_ : Int), .int .i64 (e.del : Int), str e.ins]
theorem len_edF (e : Td.E) : (edF e).length = 3 := rfl
theorem edF_inj {e e' : Td.E} (h : edF e = edF e') : e = e' := by
  obtain ⟨a, d, s⟩ := e; obtain ⟨a', d', s'⟩ := e'
  simp only [edF, List.cons.injEq, Value.int.injEq, true_and, and_true] at h
  obtain ⟨h1, h2, h3⟩ := h
  rw [str_inj h3, show a = a' by omega, show d = d' by omega]
theorem at_some {l : List UInt8} {n : Nat} (h : n < l.length) : ∃ u, l[n]? = some u := ⟨_, List.getElem?_eq_getElem h⟩

theorem neq_ed {L : Slots} {ty t2 : TypeId} {x y : Operand} {e e' : Td.E} (hx : ev L x = some (.agg (edF e).toArray)) (hy : ev L y = some (.agg (edF e').toArray)) : Pure Try.prog (.binOp .neq 30 x y t2) ty L (.bool (decide (e ≠ e'))) := by
  have h : ∀ w, (Op.equalIn 10000 30 (.agg (edF e).toArray) (.agg (edF e').toArray)).run Try.prog w = .ok (decide (e = e')) w := fun w => by
    rw [eqf_struct Try.underlying30 (by kernel_rfl) w]
    rw [eqf_one (by decide) Try.underlying3 rfl rfl rfl w (eqv_int Try.underlying3 w), eqf_one (by decide) Try.underlying3 rfl rfl rfl w (eqv_int Try.underlying3 w), eqf_one (by decide) Try.underlying9 rfl rfl rfl w (eqv_str Try.underlying9 w), eqf_nil]
    obtain ⟨a, d, s⟩ := e
    obtain ⟨a', d', s'⟩ := e'
    simp only [Td.E.mk.injEq]
    by_cases h1 : a = a'
    · subst h1
      rw [if_pos rfl]
      by_cases h2 : d = d'
      · subst h2
        rw [if_pos rfl]
        by_cases h3 : s = s'
        · subst h3; simp
        · rw [if_neg h3]; simp [h3]
      · rw [if_neg (by omega)]; simp [h2]
    · rw [if_neg (by omega)]; simp [h1]
  have := p_neqst (P := Try.prog) (ty := ty) (t2 := t2) (by kernel_rfl) hx hy h
  rw [show decide (e ≠ e') = !(decide (e = e')) by simp]
  exact this
theorem inf_30 : InfoIs Try.prog 30 3 32 (.agg #[.int .i64 0, .int .i64 0, .string ⟨#[]⟩]) := by unfold InfoIs; kernel_rfl
theorem pl_30 : PlacesIs Try.prog 30 [(0, 1), (1, 1), (2, 1)] := ⟨_, Try.underlying30, by kernel_rfl⟩
theorem hull_ok (a b : List UInt8) (hal : a.length ≤ 1000) (hbl : b.length ≤ 1000) (w : World) :
    Calls Try.prog 18 #[str a, str b] w (Ret fun v w' => v = .agg (edF (Td.hull a b)).toArray ∧ Ext [] w w') := by
  have hlc := Td.lcp_le a b
  have hsu := Td.suf_le a b
  refine calls_fx (l := [str a, str b]) Try.func18 rfl Try.ntmps18 (Nat.le_of_ble_eq_true rfl) (St.start w) ?_
  refine c_seq ?_
  refine c_reg ?_
  refine l_alloc (by decide) inf_30 _ rfl (fun b4 => ?_)
  refine l_nil ?_
  refine c_seq ?_
  refine c_reg ?_
  refine l_q (by decide) (p_assign (v := .int .i64 ((0 : Nat) : Int)) rfl).q ?_
  refine l_nil ?_
  refine c_seq ?_
  refine c_meetn (S := Unit) (fun s => True) (fun s => [(0, str a), (1, str b), (4, .pointer (some ⟨b4, 0, none⟩)), (5, .int .i64 (Td.lcp a b : Int))]) (fun s => [iCells b4 30 [.int .i64 0, .int .i64 0, str []]]) (fun s => []) ?_ ?_
  · skip
    refine c_block ?_
    refine c_loop (S := Nat) (fun s => s ≤ Td.lcp a b) (fun s => Td.lcp a b + 1 - s) (fun s => [(0, str a), (1, str b), (4, .pointer (some ⟨b4, 0, none⟩)), (5, .int .i64 (s : Int))]) (fun s => [iCells b4 30 [.int .i64 0, .int .i64 0, str []]]) (fun s => []) (0) ?_ ?_ ?_ ?_ ?_
    · show (0) ≤ Td.lcp a b
      exact Nat.zero_le _
    · exact ⟨rfl, rfl, rfl, rfl, trivial⟩
    · exact .refl _
    · exact fun _ h => absurd h List.not_mem_nil
    rintro n hinv
    have hinv : n ≤ Td.lcp a b := hinv
    have hn := hinv
    show Cont _ _ _ _ [(0, str a), (1, str b), (4, .pointer (some ⟨b4, 0, none⟩)), (5, .int .i64 (n : Int))] ([iCells b4 30 [.int .i64 0, .int .i64 0, str []]]) []
    refine c_seq ?_
    refine c_seq ?_
    refine c_draw mixed (by decide +kernel) ?_
    refine q_q (by decide) (p_move rfl).q ?_
    refine q_q (by decide) (p_move rfl).q ?_
    refine q_q (by decide) (p_len_str Try.underlying9 rfl).q ?_
    first | refine q_q (by decide) (p_lss rfl rfl rfl rfl).q ?_ | refine q_q (by decide) (p_lssi rfl rfl).q ?_
    refine q_q (by decide) (p_move rfl).q ?_
    first | refine q_splitd (t := 11) rfl (fun h11 => ?_) (fun h11 => ?_) | refine q_splitb (t := 11) rfl (fun h11 => ?_) (fun h11 => ?_)
    · skip
      refine q_g (j := 4) rfl rfl (by decide) (p_move rfl).q ?_
      refine q_g (j := 4) rfl rfl (by decide) (p_move rfl).q ?_
      refine q_g (j := 4) rfl rfl (by decide) (p_len_str Try.underlying9 rfl).q ?_
      first | refine q_g (j := 4) rfl rfl (by decide) (p_lss rfl rfl rfl rfl).q ?_ | refine q_g (j := 4) rfl rfl (by decide) (p_lssi rfl rfl).q ?_
      refine q_q (by decide) (p_pick rfl rfl).q ?_
      refine q_q (by decide) (p_move rfl).q ?_
      first | refine q_splitd (t := 17) rfl (fun h17 => ?_) (fun h17 => ?_) | refine q_splitb (t := 17) rfl (fun h17 => ?_) (fun h17 => ?_)
      · skip
        obtain ⟨u, hu⟩ := at_some h11
        obtain ⟨u2, hu2⟩ := at_some h17
        refine q_g (j := 10) rfl rfl (by decide) (p_move rfl).q ?_
        refine q_g (j := 10) rfl rfl (by decide) (p_move rfl).q ?_
        first | refine q_g (j := 10) rfl rfl (by decide) (p_index_str Try.underlying9 rfl rfl rfl (by assumption)).q ?_ | refine q_g (j := 10) rfl rfl (by decide) (p_index_str Try.underlying9 rfl rfl rfl (by simp; rfl)).q ?_
        refine q_g (j := 10) rfl rfl (by decide) (p_move rfl).q ?_
        refine q_g (j := 10) rfl rfl (by decide) (p_move rfl).q ?_
        first | refine q_g (j := 10) rfl rfl (by decide) (p_index_str Try.underlying9 rfl rfl rfl (by assumption)).q ?_ | refine q_g (j := 10) rfl rfl (by decide) (p_index_str Try.underlying9 rfl rfl rfl (by simp; rfl)).q ?_
        first | refine q_g (j := 10) rfl rfl (by decide) (p_eql rfl rfl rfl rfl).q ?_ | refine q_g (j := 10) rfl rfl (by decide) (p_eqli rfl rfl).q ?_
        refine q_q (by decide) (p_pick rfl rfl).q ?_
        refine q_nil ?_
        first | refine c_dec rfl (fun h25 => ?_) (fun h25 => ?_) | refine c_cond rfl (fun h25 => ?_) (fun h25 => ?_)
        · skip
          refine c_skip ?_
          refine c_block ?_
          refine c_reg ?_
          refine l_q (by decide) (p_move rfl).q ?_
          first | refine l_q (by decide) (p_add (j := 1) rfl rfl rfl rfl (by show _ ≤ (9223372036854775807 : Nat); omega)).q ?_ | refine l_q (by decide) (p_addi rfl rfl (by show (-9223372036854775808 : Int) ≤ _; omega) (by show _ ≤ ((9223372036854775807 : Nat) : Int); omega)).q ?_
          refine l_q (by decide) (p_assign rfl).q ?_
          refine l_nil ?_
          refine c_join ((n + 1)) ?_ ?_ ?_ ?_
          · show ((n + 1) ≤ Td.lcp a b) ∧ Td.lcp a b + 1 - (n + 1) < Td.lcp a b + 1 - n
            have h24 := Td.lcp_more hn hu (by rw [hu2, UInt8.toNat_inj.1 h25])
            exact ⟨h24, by omega⟩
          · exact ⟨rfl, rfl, rfl, rfl, trivial⟩
          · show List.Perm _ ([iCells b4 30 [.int .i64 0, .int .i64 0, str []]])
            exact .refl _
          · exact fun _ h => absurd h List.not_mem_nil
        · skip
          refine c_exit ?_
          refine c_here ?_
          obtain rfl : n = Td.lcp a b := Td.lcp_exit hn (.inr (.inr ⟨u, u2, hu, hu2, fun e => h25 (by rw [e])⟩))
          refine c_join (()) ?inv ?sub ?perm ?facts
          case sub => exact ⟨rfl, rfl, rfl, rfl, trivial⟩
          case perm =>
            exact .refl _
          case facts => exact fun _ h => absurd h List.not_mem_nil
          case inv =>
            trivial
      · skip
        refine q_off (j := 10) rfl rfl (by first | (simp; done) | (simp [undef]; done)) (by decide) ?_
        refine q_off (j := 10) rfl rfl (by first | (simp; done) | (simp [undef]; done)) (by decide) ?_
        refine q_off (j := 10) rfl rfl (by first | (simp; done) | (simp [undef]; done)) (by decide) ?_
        refine q_off (j := 10) rfl rfl (by first | (simp; done) | (simp [undef]; done)) (by decide) ?_
        refine q_off (j := 10) rfl rfl (by first | (simp; done) | (simp [undef]; done)) (by decide) ?_
        refine q_off (j := 10) rfl rfl (by first | (simp; done) | (simp [undef]; done)) (by decide) ?_
        refine q_off (j := 10) rfl rfl (by first | (simp; done) | (simp [undef]; done)) (by decide) ?_
        refine q_q (by decide) (p_pick rfl rfl).q ?_
        refine q_nil ?_
        refine c_false rfl ?_
        refine c_exit ?_
        refine c_here ?_
        obtain rfl : n = Td.lcp a b := Td.lcp_exit hn (.inr (.inl h17))
        refine c_join (()) ?inv ?sub ?perm ?facts
        case sub => exact ⟨rfl, rfl, rfl, rfl, trivial⟩
        case perm =>
          exact .refl _
        case facts => exact fun _ h => absurd h List.not_mem_nil
        case inv =>
          trivial
    · skip
      refine q_off (j := 4) rfl rfl (by first | (simp; done) | (simp [undef]; done)) (by decide) ?_
      refine q_off (j := 4) rfl rfl (by first | (simp; done) | (simp [undef]; done)) (by decide) ?_
      refine q_off (j := 4) rfl rfl (by first | (simp; done) | (simp [undef]; done)) (by decide) ?_
      refine q_off (j := 4) rfl rfl (by first | (simp; done) | (simp [undef]; done)) (by decide) ?_
      refine q_q (by decide) (p_pick rfl rfl).q ?_
      refine q_q (by decide) (p_move rfl).q ?_
      refine q_off (j := 10) rfl rfl (by first | (simp; done) | (simp [undef]; done)) (by decide) ?_
      refine q_off (j := 10) rfl rfl (by first | (simp; done) | (simp [undef]; done)) (by decide) ?_
      refine q_off (j := 10) rfl rfl (by first | (simp; done) | (simp [undef]; done)) (by decide) ?_
      refine q_off (j := 10) rfl rfl (by first | (simp; done) | (simp [undef]; done)) (by decide) ?_
      refine q_off (j := 10) rfl rfl (by first | (simp; done) | (simp [undef]; done)) (by decide) ?_
      refine q_off (j := 10) rfl rfl (by first | (simp; done) | (simp [undef]; done)) (by decide) ?_
      refine q_off (j := 10) rfl rfl (by first | (simp; done) | (simp [undef]; done)) (by decide) ?_
      refine q_q (by decide) (p_pick rfl rfl).q ?_
      refine q_nil ?_
      refine c_false rfl ?_
      refine c_exit ?_
      refine c_here ?_
      obtain rfl : n = Td.lcp a b := Td.lcp_exit hn (.inl h11)
      refine c_join (()) ?inv ?sub ?perm ?facts
      case sub => exact ⟨rfl, rfl, rfl, rfl, trivial⟩
      case perm =>
        exact .refl _
      case facts => exact fun _ h => absurd h List.not_mem_nil
      case inv =>
        trivial
  rintro uu hmeet
  show Cont _ _ _ _ [(0, str a), (1, str b), (4, .pointer (some ⟨b4, 0, none⟩)), (5, .int .i64 (Td.lcp a b : Int))] ([iCells b4 30 [.int .i64 0, .int .i64 0, str []]]) []
  refine c_seq ?_
  refine c_reg ?_
  refine l_q (by decide) (p_assign (v := .int .i64 ((0 : Nat) : Int)) rfl).q ?_
  refine l_nil ?_
  refine c_seq ?_
  refine c_meetn (S := Unit) (fun s => True) (fun s => [(0, str a), (1, str b), (4, .pointer (some ⟨b4, 0, none⟩)), (5, .int .i64 (Td.lcp a b : Int)), (6, .int .i64 (Td.suf a b : Int))]) (fun s => [iCells b4 30 [.int .i64 0, .int .i64 0, str []]]) (fun s => []) ?_ ?_
  · skip
    refine c_block ?_
    refine c_loop (S := Nat) (fun s => s ≤ Td.suf a b) (fun s => Td.suf a b + 1 - s) (fun s => [(0, str a), (1, str b), (4, .pointer (some ⟨b4, 0, none⟩)), (5, .int .i64 (Td.lcp a b : Int)), (6, .int .i64 (s : Int))]) (fun s => [iCells b4 30 [.int .i64 0, .int .i64 0, str []]]) (fun s => []) (0) ?_ ?_ ?_ ?_ ?_
    · show (0) ≤ Td.suf a b
      exact Nat.zero_le _
    · exact ⟨rfl, rfl, rfl, rfl, rfl, trivial⟩
    · exact .refl _
    · exact fun _ h => absurd h List.not_mem_nil
    rintro k hinv
    have hinv : k ≤ Td.suf a b := hinv
    have hk := hinv
    show Cont _ _ _ _ [(0, str a), (1, str b), (4, .pointer (some ⟨b4, 0, none⟩)), (5, .int .i64 (Td.lcp a b : Int)), (6, .int .i64 (k : Int))] ([iCells b4 30 [.int .i64 0, .int .i64 0, str []]]) []
    refine c_seq ?_
    refine c_seq ?_
    refine c_draw mixed (by decide +kernel) ?_
    refine q_q (by decide) (p_move rfl).q ?_
    refine q_q (by decide) (p_move rfl).q ?_
    refine q_q (by decide) (p_len_str Try.underlying9 rfl).q ?_
    refine q_q (by decide) (p_move rfl).q ?_
    first | refine q_q (by decide) (p_sub rfl rfl rfl rfl (by omega) (by show _ ≤ (9223372036854775807 : Nat); omega)).q ?_ | refine q_q (by decide) (p_subi rfl rfl (by show (-9223372036854775808 : Int) ≤ _; omega) (by show _ ≤ ((9223372036854775807 : Nat) : Int); omega)).q ?_
    first | refine q_q (by decide) (p_lss rfl rfl rfl rfl).q ?_ | refine q_q (by decide) (p_lssi rfl rfl).q ?_
    refine q_q (by decide) (p_move rfl).q ?_
    first | refine q_splitd (t := 34) rfl (fun h34 => ?_) (fun h34 => ?_) | refine q_splitb (t := 34) rfl (fun h34 => ?_) (fun h34 => ?_)
    · skip
      refine q_g (j := 6) rfl rfl (by decide) (p_move rfl).q ?_
      refine q_g (j := 6) rfl rfl (by decide) (p_move rfl).q ?_
      refine q_g (j := 6) rfl rfl (by decide) (p_len_str Try.underlying9 rfl).q ?_
      refine q_g (j := 6) rfl rfl (by decide) (p_move rfl).q ?_
      first | refine q_g (j := 6) rfl rfl (by decide) (p_sub rfl rfl rfl rfl (by omega) (by show _ ≤ (9223372036854775807 : Nat); omega)).q ?_ | refine q_g (j := 6) rfl rfl (by decide) (p_subi rfl rfl (by show (-9223372036854775808 : Int) ≤ _; omega) (by show _ ≤ ((9223372036854775807 : Nat) : Int); omega)).q ?_
      first | refine q_g (j := 6) rfl rfl (by decide) (p_lss rfl rfl rfl rfl).q ?_ | refine q_g (j := 6) rfl rfl (by decide) (p_lssi rfl rfl).q ?_
      refine q_q (by decide) (p_pick rfl rfl).q ?_
      refine q_q (by decide) (p_move rfl).q ?_
      first | refine q_splitd (t := 42) rfl (fun h42 => ?_) (fun h42 => ?_) | refine q_splitb (t := 42) rfl (fun h42 => ?_) (fun h42 => ?_)
      · skip
        obtain ⟨u, hu⟩ := at_some (l := a) (n := a.length - 1 - k) (by omega)
        obtain ⟨u2, hu2⟩ := at_some (l := b) (n := b.length - 1 - k) (by omega)
        refine q_g (j := 14) rfl rfl (by decide) (p_move rfl).q ?_
        refine q_g (j := 14) rfl rfl (by decide) (p_move rfl).q ?_
        refine q_g (j := 14) rfl rfl (by decide) (p_len_str Try.underlying9 rfl).q ?_
        first | refine q_g (j := 14) rfl rfl (by decide) (p_sub (j := 1) rfl rfl rfl rfl (by omega) (by show _ ≤ (9223372036854775807 : Nat); omega)).q ?_ | refine q_g (j := 14) rfl rfl (by decide) (p_subi rfl rfl (by show (-9223372036854775808 : Int) ≤ _; omega) (by show _ ≤ ((9223372036854775807 : Nat) : Int); omega)).q ?_
        refine q_g (j := 14) rfl rfl (by decide) (p_move rfl).q ?_
        first | refine q_g (j := 14) rfl rfl (by decide) (p_sub rfl rfl rfl rfl (by omega) (by show _ ≤ (9223372036854775807 : Nat); omega)).q ?_ | refine q_g (j := 14) rfl rfl (by decide) (p_subi rfl rfl (by show (-9223372036854775808 : Int) ≤ _; omega) (by show _ ≤ ((9223372036854775807 : Nat) : Int); omega)).q ?_
        first | refine q_g (j := 14) rfl rfl (by decide) (p_index_str Try.underlying9 rfl rfl rfl (by assumption)).q ?_ | refine q_g (j := 14) rfl rfl (by decide) (p_index_str Try.underlying9 rfl rfl rfl (by simp; rfl)).q ?_
        refine q_g (j := 14) rfl rfl (by decide) (p_move rfl).q ?_
        refine q_g (j := 14) rfl rfl (by decide) (p_move rfl).q ?_
        refine q_g (j := 14) rfl rfl (by decide) (p_len_str Try.underlying9 rfl).q ?_
        first | refine q_g (j := 14) rfl rfl (by decide) (p_sub (j := 1) rfl rfl rfl rfl (by omega) (by show _ ≤ (9223372036854775807 : Nat); omega)).q ?_ | refine q_g (j := 14) rfl rfl (by decide) (p_subi rfl rfl (by show (-9223372036854775808 : Int) ≤ _; omega) (by show _ ≤ ((9223372036854775807 : Nat) : Int); omega)).q ?_
        refine q_g (j := 14) rfl rfl (by decide) (p_move rfl).q ?_
        first | refine q_g (j := 14) rfl rfl (by decide) (p_sub rfl rfl rfl rfl (by omega) (by show _ ≤ (9223372036854775807 : Nat); omega)).q ?_ | refine q_g (j := 14) rfl rfl (by decide) (p_subi rfl rfl (by show (-9223372036854775808 : Int) ≤ _; omega) (by show _ ≤ ((9223372036854775807 : Nat) : Int); omega)).q ?_
        first | refine q_g (j := 14) rfl rfl (by decide) (p_index_str Try.underlying9 rfl rfl rfl (by assumption)).q ?_ | refine q_g (j := 14) rfl rfl (by decide) (p_index_str Try.underlying9 rfl rfl rfl (by simp; rfl)).q ?_
        first | refine q_g (j := 14) rfl rfl (by decide) (p_eql rfl rfl rfl rfl).q ?_ | refine q_g (j := 14) rfl rfl (by decide) (p_eqli rfl rfl).q ?_
        refine q_q (by decide) (p_pick rfl rfl).q ?_
        refine q_nil ?_
        first | refine c_dec rfl (fun h58 => ?_) (fun h58 => ?_) | refine c_cond rfl (fun h58 => ?_) (fun h58 => ?_)
        · skip
          refine c_skip ?_
          refine c_block ?_
          refine c_reg ?_
          refine l_q (by decide) (p_move rfl).q ?_
          first | refine l_q (by decide) (p_add (j := 1) rfl rfl rfl rfl (by show _ ≤ (9223372036854775807 : Nat); omega)).q ?_ | refine l_q (by decide) (p_addi rfl rfl (by show (-9223372036854775808 : Int) ≤ _; omega) (by show _ ≤ ((9223372036854775807 : Nat) : Int); omega)).q ?_
          refine l_q (by decide) (p_assign rfl).q ?_
          refine l_nil ?_
          refine c_join ((k + 1)) ?_ ?_ ?_ ?_
          · show ((k + 1) ≤ Td.suf a b) ∧ Td.suf a b + 1 - (k + 1) < Td.suf a b + 1 - k
            have h57 := Td.suf_more hk h34 h42 hu (by rw [hu2, UInt8.toNat_inj.1 h58])
            exact ⟨h57, by omega⟩
          · exact ⟨rfl, rfl, rfl, rfl, rfl, trivial⟩
          · show List.Perm _ ([iCells b4 30 [.int .i64 0, .int .i64 0, str []]])
            exact .refl _
          · exact fun _ h => absurd h List.not_mem_nil
        · skip
          refine c_exit ?_
          refine c_here ?_
          obtain rfl : k = Td.suf a b := Td.suf_exit hk (.inr (.inr ⟨h34, h42, u, u2, hu, hu2, fun e => h58 (by rw [e])⟩))
          refine c_join (()) ?inv ?sub ?perm ?facts
          case sub => exact ⟨rfl, rfl, rfl, rfl, rfl, trivial⟩
          case perm =>
            exact .refl _
          case facts => exact fun _ h => absurd h List.not_mem_nil
          case inv =>
            trivial
      · skip
        refine q_off (j := 14) rfl rfl (by first | (simp; done) | (simp [undef]; done)) (by decide) ?_
        refine q_off (j := 14) rfl rfl (by first | (simp; done) | (simp [undef]; done)) (by decide) ?_
        refine q_off (j := 14) rfl rfl (by first | (simp; done) | (simp [undef]; done)) (by decide) ?_
        refine q_off (j := 14) rfl rfl (by first | (simp; done) | (simp [undef]; done)) (by decide) ?_
        refine q_off (j := 14) rfl rfl (by first | (simp; done) | (simp [undef]; done)) (by decide) ?_
        refine q_off (j := 14) rfl rfl (by first | (simp; done) | (simp [undef]; done)) (by decide) ?_
        refine q_off (j := 14) rfl rfl (by first | (simp; done) | (simp [undef]; done)) (by decide) ?_
        refine q_off (j := 14) rfl rfl (by first | (simp; done) | (simp [undef]; done)) (by decide) ?_
        refine q_off (j := 14) rfl rfl (by first | (simp; done) | (simp [undef]; done)) (by decide) ?_
        refine q_off (j := 14) rfl rfl (by first | (simp; done) | (simp [undef]; done)) (by decide) ?_
        refine q_off (j := 14) rfl rfl (by first | (simp; done) | (simp [undef]; done)) (by decide) ?_
        refine q_off (j := 14) rfl rfl (by first | (simp; done) | (simp [undef]; done)) (by decide) ?_
        refine q_off (j := 14) rfl rfl (by first | (simp; done) | (simp [undef]; done)) (by decide) ?_
        refine q_off (j := 14) rfl rfl (by first | (simp; done) | (simp [undef]; done)) (by decide) ?_
        refine q_off (j := 14) rfl rfl (by first | (simp; done) | (simp [undef]; done)) (by decide) ?_
        refine q_q (by decide) (p_pick rfl rfl).q ?_
        refine q_nil ?_
        refine c_false rfl ?_
        refine c_exit ?_
        refine c_here ?_
        obtain rfl : k = Td.suf a b := Td.suf_exit hk (.inr (.inl h42))
        refine c_join (()) ?inv ?sub ?perm ?facts
        case sub => exact ⟨rfl, rfl, rfl, rfl, rfl, trivial⟩
        case perm =>
          exact .refl _
        case facts => exact fun _ h => absurd h List.not_mem_nil
        case inv =>
          trivial
    · skip
      refine q_off (j := 6) rfl rfl (by first | (simp; done) | (simp [undef]; done)) (by decide) ?_
      refine q_off (j := 6) rfl rfl (by first | (simp; done) | (simp [undef]; done)) (by decide) ?_
      refine q_off (j := 6) rfl rfl (by first | (simp; done) | (simp [undef]; done)) (by decide) ?_
      refine q_off (j := 6) rfl rfl (by first | (simp; done) | (simp [undef]; done)) (by decide) ?_
      refine q_off (j := 6) rfl rfl (by first | (simp; done) | (simp [undef]; done)) (by decide) ?_
      refine q_off (j := 6) rfl rfl (by first | (simp; done) | (simp [undef]; done)) (by decide) ?_
      refine q_q (by decide) (p_pick rfl rfl).q ?_
      refine q_q (by decide) (p_move rfl).q ?_
      refine q_off (j := 14) rfl rfl (by first | (simp; done) | (simp [undef]; done)) (by decide) ?_
      refine q_off (j := 14) rfl rfl (by first | (simp; done) | (simp [undef]; done)) (by decide) ?_
      refine q_off (j := 14) rfl rfl (by first | (simp; done) | (simp [undef]; done)) (by decide) ?_
      refine q_off (j := 14) rfl rfl (by first | (simp; done) | (simp [undef]; done)) (by decide) ?_
      refine q_off (j := 14) rfl rfl (by first | (simp; done) | (simp [undef]; done)) (by decide) ?_
      refine q_off (j := 14) rfl rfl (by first | (simp; done) | (simp [undef]; done)) (by decide) ?_
      refine q_off (j := 14) rfl rfl (by first | (simp; done) | (simp [undef]; done)) (by decide) ?_
      refine q_off (j := 14) rfl rfl (by first | (simp; done) | (simp [undef]; done)) (by decide) ?_
      refine q_off (j := 14) rfl rfl (by first | (simp; done) | (simp [undef]; done)) (by decide) ?_
      refine q_off (j := 14) rfl rfl (by first | (simp; done) | (simp [undef]; done)) (by decide) ?_
      refine q_off (j := 14) rfl rfl (by first | (simp; done) | (simp [undef]; done)) (by decide) ?_
      refine q_off (j := 14) rfl rfl (by first | (simp; done) | (simp [undef]; done)) (by decide) ?_
      refine q_off (j := 14) rfl rfl (by first | (simp; done) | (simp [undef]; done)) (by decide) ?_
      refine q_off (j := 14) rfl rfl (by first | (simp; done) | (simp [undef]; done)) (by decide) ?_
      refine q_off (j := 14) rfl rfl (by first | (simp; done) | (simp [undef]; done)) (by decide) ?_
      refine q_q (by decide) (p_pick rfl rfl).q ?_
      refine q_nil ?_
      refine c_false rfl ?_
      refine c_exit ?_
      refine c_here ?_
      obtain rfl : k = Td.suf a b := Td.suf_exit hk (.inl h34)
      refine c_join (()) ?inv ?sub ?perm ?facts
      case sub => exact ⟨rfl, rfl, rfl, rfl, rfl, trivial⟩
      case perm =>
        exact .refl _
      case facts => exact fun _ h => absurd h List.not_mem_nil
      case inv =>
        trivial
  rintro uu hmeet
  show Cont _ _ _ _ [(0, str a), (1, str b), (4, .pointer (some ⟨b4, 0, none⟩)), (5, .int .i64 (Td.lcp a b : Int)), (6, .int .i64 (Td.suf a b : Int))] ([iCells b4 30 [.int .i64 0, .int .i64 0, str []]]) []
  refine c_seq ?_
  refine c_reg ?_
  refine l_q (by decide) (p_move rfl).q ?_
  refine l_q (by decide) (p_move rfl).q ?_
  refine l_q (by decide) (p_len_str Try.underlying9 rfl).q ?_
  refine l_q (by decide) (p_move rfl).q ?_
  first | refine l_q (by decide) (p_sub rfl rfl rfl rfl (by omega) (by show _ ≤ (9223372036854775807 : Nat); omega)).q ?_ | refine l_q (by decide) (p_subi rfl rfl (by show (-9223372036854775808 : Int) ≤ _; omega) (by show _ ≤ ((9223372036854775807 : Nat) : Int); omega)).q ?_
  refine l_q (by decide) (p_move rfl).q ?_
  first | refine l_q (by decide) (p_sub rfl rfl rfl rfl (by omega) (by show _ ≤ (9223372036854775807 : Nat); omega)).q ?_ | refine l_q (by decide) (p_subi rfl rfl (by show (-9223372036854775808 : Int) ≤ _; omega) (by show _ ≤ ((9223372036854775807 : Nat) : Int); omega)).q ?_
  refine l_q (by decide) (p_move rfl).q ?_
  refine l_q (by decide) (p_move rfl).q ?_
  refine l_q (by decide) (p_move rfl).q ?_
  refine l_q (by decide) (p_len_str Try.underlying9 rfl).q ?_
  refine l_q (by decide) (p_move rfl).q ?_
  first | refine l_q (by decide) (p_sub rfl rfl rfl rfl (by omega) (by show _ ≤ (9223372036854775807 : Nat); omega)).q ?_ | refine l_q (by decide) (p_subi rfl rfl (by show (-9223372036854775808 : Int) ≤ _; omega) (by show _ ≤ ((9223372036854775807 : Nat) : Int); omega)).q ?_
  first | refine l_q (by decide) (((p_slice_lh Try.underlying9 rfl rfl rfl rfl rfl (by omega) (by omega))).to (u := str (Td.hull a b).ins) (by show str _ = str _; congr 1; show List.take _ _ = List.take _ _; congr 1; omega)).q ?_ | refine l_q (by decide) (((p_slice_lh Try.underlying9 rfl rfl rfl rfl rfl (by omega) (by simp; omega))).to (u := str (Td.hull a b).ins) (by show str _ = str _; congr 1; show List.take _ _ = List.take _ _; congr 1; omega)).q ?_
  refine l_q (by decide) (p_build (cells := #[_, _, _]) inf_30 pl_30 rfl rfl).q ?_
  first | (refine l_storew inf_30 rfl rfl rfl rfl rfl ?_) | (refine l_perm (front1 _ _ _) ?_; refine l_storew inf_30 rfl rfl rfl rfl rfl ?_) | (refine l_perm (front2 _ _ _ _) ?_; refine l_storew inf_30 rfl rfl rfl rfl rfl ?_) | (refine l_perm (front3 _ _ _ _ _) ?_; refine l_storew inf_30 rfl rfl rfl rfl rfl ?_) | (refine l_perm (front4 _ _ _ _ _ _) ?_; refine l_storew inf_30 rfl rfl rfl rfl rfl ?_) | (refine l_storea inf_30 rfl rfl rfl rfl (by decide) ?_) | (refine l_perm (front1 _ _ _) ?_; refine l_storea inf_30 rfl rfl rfl rfl (by decide) ?_) | (refine l_perm (front2 _ _ _ _) ?_; refine l_storea inf_30 rfl rfl rfl rfl (by decide) ?_)
  refine l_nil ?_
  refine c_ret ?_
  refine c_retcw rfl rfl Try.underlying30 rfl inf_30 (by repeat (first | exact List.Mem.head _ | apply List.Mem.tail)) (by rfl) (fun w hs => ?_)
  exact ⟨rfl, hs.ext⟩

theorem hull2_ok (a b : List UInt8) (hal : a.length ≤ 1000) (hbl : b.length ≤ 1000) (w : World) :
    Calls Try.prog 19 #[str a, str b] w (Ret fun v w' => v = .agg (edF (Td.hull a b)).toArray ∧ Ext [] w w') := by
  have hlc := Td.lcp_le a b
  have hsu := Td.suf_le a b
  refine calls_fx (l := [str a, str b]) Try.func19 rfl Try.ntmps19 (Nat.le_of_ble_eq_true rfl) (St.start w) ?_
  refine c_seq ?_
  refine c_reg ?_
  refine l_alloc (by decide) inf_30 _ rfl (fun b4 => ?_)
  refine l_nil ?_
  refine c_seq ?_
  refine c_reg ?_
  refine l_q (by decide) (p_assign (v := .int .i64 ((0 : Nat) : Int)) rfl).q ?_
  refine l_nil ?_
  refine c_seq ?_
  refine c_meetn (S := Unit) (fun s => True) (fun s => [(0, str a), (1, str b), (4, .pointer (some ⟨b4, 0, none⟩)), (5, .int .i64 (Td.lcp a b : Int))]) (fun s => [iCells b4 30 [.int .i64 0, .int .i64 0, str []]]) (fun s => []) ?_ ?_
  · skip
    refine c_block ?_
    refine c_loop (S := Nat) (fun s => s ≤ Td.lcp a b) (fun s => Td.lcp a b + 1 - s) (fun s => [(0, str a), (1, str b), (4, .pointer (some ⟨b4, 0, none⟩)), (5, .int .i64 (s : Int))]) (fun s => [iCells b4 30 [.int .i64 0, .int .i64 0, str []]]) (fun s => []) (0) ?_ ?_ ?_ ?_ ?_
    · show (0) ≤ Td.lcp a b
      exact Nat.zero_le _
    · exact ⟨rfl, rfl, rfl, rfl, trivial⟩
    · exact .refl _
    · exact fun _ h => absurd h List.not_mem_nil
    rintro n hinv
    have hinv : n ≤ Td.lcp a b := hinv
    have hn := hinv
    show Cont _ _ _ _ [(0, str a), (1, str b), (4, .pointer (some ⟨b4, 0, none⟩)), (5, .int .i64 (n : Int))] ([iCells b4 30 [.int .i64 0, .int .i64 0, str []]]) []
    refine c_seq ?_
    refine c_seq ?_
    refine c_draw mixed (by decide +kernel) ?_
    refine q_q (by decide) (p_move rfl).q ?_
    refine q_q (by decide) (p_move rfl).q ?_
    refine q_q (by decide) (p_len_str Try.underlying9 rfl).q ?_
    first | refine q_q (by decide) (p_lss rfl rfl rfl rfl).q ?_ | refine q_q (by decide) (p_lssi rfl rfl).q ?_
    refine q_q (by decide) (p_move rfl).q ?_
    first | refine q_splitd (t := 11) rfl (fun h11 => ?_) (fun h11 => ?_) | refine q_splitb (t := 11) rfl (fun h11 => ?_) (fun h11 => ?_)
    · skip
      refine q_g (j := 4) rfl rfl (by decide) (p_move rfl).q ?_
      refine q_g (j := 4) rfl rfl (by decide) (p_move rfl).q ?_
      refine q_g (j := 4) rfl rfl (by decide) (p_len_str Try.underlying9 rfl).q ?_
      first | refine q_g (j := 4) rfl rfl (by decide) (p_lss rfl rfl rfl rfl).q ?_ | refine q_g (j := 4) rfl rfl (by decide) (p_lssi rfl rfl).q ?_
      refine q_q (by decide) (p_pick rfl rfl).q ?_
      refine q_q (by decide) (p_move rfl).q ?_
      first | refine q_splitd (t := 17) rfl (fun h17 => ?_) (fun h17 => ?_) | refine q_splitb (t := 17) rfl (fun h17 => ?_) (fun h17 => ?_)
      · skip
        obtain ⟨u, hu⟩ := at_some h11
        obtain ⟨u2, hu2⟩ := at_some h17
        refine q_g (j := 10) rfl rfl (by decide) (p_move rfl).q ?_
        refine q_g (j := 10) rfl rfl (by decide) (p_move rfl).q ?_
        first | refine q_g (j := 10) rfl rfl (by decide) (p_index_str Try.underlying9 rfl rfl rfl (by assumption)).q ?_ | refine q_g (j := 10) rfl rfl (by decide) (p_index_str Try.underlying9 rfl rfl rfl (by simp; rfl)).q ?_
        refine q_g (j := 10) rfl rfl (by decide) (p_move rfl).q ?_
        refine q_g (j := 10) rfl rfl (by decide) (p_move rfl).q ?_
        first | refine q_g (j := 10) rfl rfl (by decide) (p_index_str Try.underlying9 rfl rfl rfl (by assumption)).q ?_ | refine q_g (j := 10) rfl rfl (by decide) (p_index_str Try.underlying9 rfl rfl rfl (by simp; rfl)).q ?_
        first | refine q_g (j := 10) rfl rfl (by decide) (p_eql rfl rfl rfl rfl).q ?_ | refine q_g (j := 10) rfl rfl (by decide) (p_eqli rfl rfl).q ?_
        refine q_q (by decide) (p_pick rfl rfl).q ?_
        refine q_nil ?_
        first | refine c_dec rfl (fun h25 => ?_) (fun h25 => ?_) | refine c_cond rfl (fun h25 => ?_) (fun h25 => ?_)
        · skip
          refine c_skip ?_
          refine c_block ?_
          refine c_reg ?_
          refine l_q (by decide) (p_move rfl).q ?_
          first | refine l_q (by decide) (p_add (j := 1) rfl rfl rfl rfl (by show _ ≤ (9223372036854775807 : Nat); omega)).q ?_ | refine l_q (by decide) (p_addi rfl rfl (by show (-9223372036854775808 : Int) ≤ _; omega) (by show _ ≤ ((9223372036854775807 : Nat) : Int); omega)).q ?_
          refine l_q (by decide) (p_assign rfl).q ?_
          refine l_nil ?_
          refine c_join ((n + 1)) ?_ ?_ ?_ ?_
          · show ((n + 1) ≤ Td.lcp a b) ∧ Td.lcp a b + 1 - (n + 1) < Td.lcp a b + 1 - n
            have h24 := Td.lcp_more hn hu (by rw [hu2, UInt8.toNat_inj.1 h25])
            exact ⟨h24, by omega⟩
          · exact ⟨rfl, rfl, rfl, rfl, trivial⟩
          · show List.Perm _ ([iCells b4 30 [.int .i64 0, .int .i64 0, str []]])
            exact .refl _
          · exact fun _ h => absurd h List.not_mem_nil
        · skip
          refine c_exit ?_
          refine c_here ?_
          obtain rfl : n = Td.lcp a b := Td.lcp_exit hn (.inr (.inr ⟨u, u2, hu, hu2, fun e => h25 (by rw [e])⟩))
          refine c_join (()) ?inv ?sub ?perm ?facts
          case sub => exact ⟨rfl, rfl, rfl, rfl, trivial⟩
          case perm =>
            exact .refl _
          case facts => exact fun _ h => absurd h List.not_mem_nil
          case inv =>
            trivial
      · skip
        refine q_off (j := 10) rfl rfl (by first | (simp; done) | (simp [undef]; done)) (by decide) ?_
        refine q_off (j := 10) rfl rfl (by first | (simp; done) | (simp [undef]; done)) (by decide) ?_
        refine q_off (j := 10) rfl rfl (by first | (simp; done) | (simp [undef]; done)) (by decide) ?_
        refine q_off (j := 10) rfl rfl (by first | (simp; done) | (simp [undef]; done)) (by decide) ?_
        refine q_off (j := 10) rfl rfl (by first | (simp; done) | (simp [undef]; done)) (by decide) ?_
        refine q_off (j := 10) rfl rfl (by first | (simp; done) | (simp [undef]; done)) (by decide) ?_
        refine q_off (j := 10) rfl rfl (by first | (simp; done) | (simp [undef]; done)) (by decide) ?_
        refine q_q (by decide) (p_pick rfl rfl).q ?_
        refine q_nil ?_
        refine c_false rfl ?_
        refine c_exit ?_
        refine c_here ?_
        obtain rfl : n = Td.lcp a b := Td.lcp_exit hn (.inr (.inl h17))
        refine c_join (()) ?inv ?sub ?perm ?facts
        case sub => exact ⟨rfl, rfl, rfl, rfl, trivial⟩
        case perm =>
          exact .refl _
        case facts => exact fun _ h => absurd h List.not_mem_nil
        case inv =>
          trivial
    · skip
      refine q_off (j := 4) rfl rfl (by first | (simp; done) | (simp [undef]; done)) (by decide) ?_
      refine q_off (j := 4) rfl rfl (by first | (simp; done) | (simp [undef]; done)) (by decide) ?_
      refine q_off (j := 4) rfl rfl (by first | (simp; done) | (simp [undef]; done)) (by decide) ?_
      refine q_off (j := 4) rfl rfl (by first | (simp; done) | (simp [undef]; done)) (by decide) ?_
      refine q_q (by decide) (p_pick rfl rfl).q ?_
      refine q_q (by decide) (p_move rfl).q ?_
      refine q_off (j := 10) rfl rfl (by first | (simp; done) | (simp [undef]; done)) (by decide) ?_
      refine q_off (j := 10) rfl rfl (by first | (simp; done) | (simp [undef]; done)) (by decide) ?_
      refine q_off (j := 10) rfl rfl (by first | (simp; done) | (simp [undef]; done)) (by decide) ?_
      refine q_off (j := 10) rfl rfl (by first | (simp; done) | (simp [undef]; done)) (by decide) ?_
      refine q_off (j := 10) rfl rfl (by first | (simp; done) | (simp [undef]; done)) (by decide) ?_
      refine q_off (j := 10) rfl rfl (by first | (simp; done) | (simp [undef]; done)) (by decide) ?_
      refine q_off (j := 10) rfl rfl (by first | (simp; done) | (simp [undef]; done)) (by decide) ?_
      refine q_q (by decide) (p_pick rfl rfl).q ?_
      refine q_nil ?_
      refine c_false rfl ?_
      refine c_exit ?_
      refine c_here ?_
      obtain rfl : n = Td.lcp a b := Td.lcp_exit hn (.inl h11)
      refine c_join (()) ?inv ?sub ?perm ?facts
      case sub => exact ⟨rfl, rfl, rfl, rfl, trivial⟩
      case perm =>
        exact .refl _
      case facts => exact fun _ h => absurd h List.not_mem_nil
      case inv =>
        trivial
  rintro uu hmeet
  show Cont _ _ _ _ [(0, str a), (1, str b), (4, .pointer (some ⟨b4, 0, none⟩)), (5, .int .i64 (Td.lcp a b : Int))] ([iCells b4 30 [.int .i64 0, .int .i64 0, str []]]) []
  refine c_seq ?_
  refine c_reg ?_
  refine l_q (by decide) (p_assign (v := .int .i64 ((0 : Nat) : Int)) rfl).q ?_
  refine l_nil ?_
  refine c_seq ?_
  refine c_meetn (S := Unit) (fun s => True) (fun s => [(0, str a), (1, str b), (4, .pointer (some ⟨b4, 0, none⟩)), (5, .int .i64 (Td.lcp a b : Int)), (6, .int .i64 (Td.suf a b : Int))]) (fun s => [iCells b4 30 [.int .i64 0, .int .i64 0, str []]]) (fun s => []) ?_ ?_
  · skip
    refine c_block ?_
    refine c_loop (S := Nat) (fun s => s ≤ Td.suf a b) (fun s => Td.suf a b + 1 - s) (fun s => [(0, str a), (1, str b), (4, .pointer (some ⟨b4, 0, none⟩)), (5, .int .i64 (Td.lcp a b : Int)), (6, .int .i64 (s : Int))]) (fun s => [iCells b4 30 [.int .i64 0, .int .i64 0, str []]]) (fun s => []) (0) ?_ ?_ ?_ ?_ ?_
    · show (0) ≤ Td.suf a b
      exact Nat.zero_le _
    · exact ⟨rfl, rfl, rfl, rfl, rfl, trivial⟩
    · exact .refl _
    · exact fun _ h => absurd h List.not_mem_nil
    rintro k hinv
    have hinv : k ≤ Td.suf a b := hinv
    have hk := hinv
    show Cont _ _ _ _ [(0, str a), (1, str b), (4, .pointer (some ⟨b4, 0, none⟩)), (5, .int .i64 (Td.lcp a b : Int)), (6, .int .i64 (k : Int))] ([iCells b4 30 [.int .i64 0, .int .i64 0, str []]]) []
    refine c_seq ?_
    refine c_seq ?_
    refine c_draw mixed (by decide +kernel) ?_
    refine q_q (by decide) (p_move rfl).q ?_
    refine q_q (by decide) (p_move rfl).q ?_
    refine q_q (by decide) (p_len_str Try.underlying9 rfl).q ?_
    refine q_q (by decide) (p_move rfl).q ?_
    first | refine q_q (by decide) (p_sub rfl rfl rfl rfl (by omega) (by show _ ≤ (9223372036854775807 : Nat); omega)).q ?_ | refine q_q (by decide) (p_subi rfl rfl (by show (-9223372036854775808 : Int) ≤ _; omega) (by show _ ≤ ((9223372036854775807 : Nat) : Int); omega)).q ?_
    first | refine q_q (by decide) (p_lss rfl rfl rfl rfl).q ?_ | refine q_q (by decide) (p_lssi rfl rfl).q ?_
    refine q_q (by decide) (p_move rfl).q ?_
    first | refine q_splitd (t := 34) rfl (fun h34 => ?_) (fun h34 => ?_) | refine q_splitb (t := 34) rfl (fun h34 => ?_) (fun h34 => ?_)
    · skip
      refine q_g (j := 6) rfl rfl (by decide) (p_move rfl).q ?_
      refine q_g (j := 6) rfl rfl (by decide) (p_move rfl).q ?_
      refine q_g (j := 6) rfl rfl (by decide) (p_len_str Try.underlying9 rfl).q ?_
      refine q_g (j := 6) rfl rfl (by decide) (p_move rfl).q ?_
      first | refine q_g (j := 6) rfl rfl (by decide) (p_sub rfl rfl rfl rfl (by omega) (by show _ ≤ (9223372036854775807 : Nat); omega)).q ?_ | refine q_g (j := 6) rfl rfl (by decide) (p_subi rfl rfl (by show (-9223372036854775808 : Int) ≤ _; omega) (by show _ ≤ ((9223372036854775807 : Nat) : Int); omega)).q ?_
      first | refine q_g (j := 6) rfl rfl (by decide) (p_lss rfl rfl rfl rfl).q ?_ | refine q_g (j := 6) rfl rfl (by decide) (p_lssi rfl rfl).q ?_
      refine q_q (by decide) (p_pick rfl rfl).q ?_
      refine q_q (by decide) (p_move rfl).q ?_
      first | refine q_splitd (t := 42) rfl (fun h42 => ?_) (fun h42 => ?_) | refine q_splitb (t := 42) rfl (fun h42 => ?_) (fun h42 => ?_)
      · skip
        obtain ⟨u, hu⟩ := at_some (l := a) (n := a.length - 1 - k) (by omega)
        obtain ⟨u2, hu2⟩ := at_some (l := b) (n := b.length - 1 - k) (by omega)
        refine q_g (j := 14) rfl rfl (by decide) (p_move rfl).q ?_
        refine q_g (j := 14) rfl rfl (by decide) (p_move rfl).q ?_
        refine q_g (j := 14) rfl rfl (by decide) (p_len_str Try.underlying9 rfl).q ?_
        first | refine q_g (j := 14) rfl rfl (by decide) (p_sub (j := 1) rfl rfl rfl rfl (by omega) (by show _ ≤ (9223372036854775807 : Nat); omega)).q ?_ | refine q_g (j := 14) rfl rfl (by decide) (p_subi rfl rfl (by show (-9223372036854775808 : Int) ≤ _; omega) (by show _ ≤ ((9223372036854775807 : Nat) : Int); omega)).q ?_
        refine q_g (j := 14) rfl rfl (by decide) (p_move rfl).q ?_
        first | refine q_g (j := 14) rfl rfl (by decide) (p_sub rfl rfl rfl rfl (by omega) (by show _ ≤ (9223372036854775807 : Nat); omega)).q ?_ | refine q_g (j := 14) rfl rfl (by decide) (p_subi rfl rfl (by show (-9223372036854775808 : Int) ≤ _; omega) (by show _ ≤ ((9223372036854775807 : Nat) : Int); omega)).q ?_
        first | refine q_g (j := 14) rfl rfl (by decide) (p_index_str Try.underlying9 rfl rfl rfl (by assumption)).q ?_ | refine q_g (j := 14) rfl rfl (by decide) (p_index_str Try.underlying9 rfl rfl rfl (by simp; rfl)).q ?_
        refine q_g (j := 14) rfl rfl (by decide) (p_move rfl).q ?_
        refine q_g (j := 14) rfl rfl (by decide) (p_move rfl).q ?_
        refine q_g (j := 14) rfl rfl (by decide) (p_len_str Try.underlying9 rfl).q ?_
        first | refine q_g (j := 14) rfl rfl (by decide) (p_sub (j := 1) rfl rfl rfl rfl (by omega) (by show _ ≤ (9223372036854775807 : Nat); omega)).q ?_ | refine q_g (j := 14) rfl rfl (by decide) (p_subi rfl rfl (by show (-9223372036854775808 : Int) ≤ _; omega) (by show _ ≤ ((9223372036854775807 : Nat) : Int); omega)).q ?_
        refine q_g (j := 14) rfl rfl (by decide) (p_move rfl).q ?_
        first | refine q_g (j := 14) rfl rfl (by decide) (p_sub rfl rfl rfl rfl (by omega) (by show _ ≤ (9223372036854775807 : Nat); omega)).q ?_ | refine q_g (j := 14) rfl rfl (by decide) (p_subi rfl rfl (by show (-9223372036854775808 : Int) ≤ _; omega) (by show _ ≤ ((9223372036854775807 : Nat) : Int); omega)).q ?_
        first | refine q_g (j := 14) rfl rfl (by decide) (p_index_str Try.underlying9 rfl rfl rfl (by assumption)).q ?_ | refine q_g (j := 14) rfl rfl (by decide) (p_index_str Try.underlying9 rfl rfl rfl (by simp; rfl)).q ?_
        first | refine q_g (j := 14) rfl rfl (by decide) (p_eql rfl rfl rfl rfl).q ?_ | refine q_g (j := 14) rfl rfl (by decide) (p_eqli rfl rfl).q ?_
        refine q_q (by decide) (p_pick rfl rfl).q ?_
        refine q_nil ?_
        first | refine c_dec rfl (fun h58 => ?_) (fun h58 => ?_) | refine c_cond rfl (fun h58 => ?_) (fun h58 => ?_)
        · skip
          refine c_skip ?_
          refine c_block ?_
          refine c_reg ?_
          refine l_q (by decide) (p_move rfl).q ?_
          first | refine l_q (by decide) (p_add (j := 1) rfl rfl rfl rfl (by show _ ≤ (9223372036854775807 : Nat); omega)).q ?_ | refine l_q (by decide) (p_addi rfl rfl (by show (-9223372036854775808 : Int) ≤ _; omega) (by show _ ≤ ((9223372036854775807 : Nat) : Int); omega)).q ?_
          refine l_q (by decide) (p_assign rfl).q ?_
          refine l_nil ?_
          refine c_join ((k + 1)) ?_ ?_ ?_ ?_
          · show ((k + 1) ≤ Td.suf a b) ∧ Td.suf a b + 1 - (k + 1) < Td.suf a b + 1 - k
            have h57 := Td.suf_more hk h34 h42 hu (by rw [hu2, UInt8.toNat_inj.1 h58])
            exact ⟨h57, by omega⟩
          · exact ⟨rfl, rfl, rfl, rfl, rfl, trivial⟩
          · show List.Perm _ ([iCells b4 30 [.int .i64 0, .int .i64 0, str []]])
            exact .refl _
          · exact fun _ h => absurd h List.not_mem_nil
        · skip
          refine c_exit ?_
          refine c_here ?_
          obtain rfl : k = Td.suf a b := Td.suf_exit hk (.inr (.inr ⟨h34, h42, u, u2, hu, hu2, fun e => h58 (by rw [e])⟩))
          refine c_join (()) ?inv ?sub ?perm ?facts
          case sub => exact ⟨rfl, rfl, rfl, rfl, rfl, trivial⟩
          case perm =>
            exact .refl _
          case facts => exact fun _ h => absurd h List.not_mem_nil
          case inv =>
            trivial
      · skip
        refine q_off (j := 14) rfl rfl (by first | (simp; done) | (simp [undef]; done)) (by decide) ?_
        refine q_off (j := 14) rfl rfl (by first | (simp; done) | (simp [undef]; done)) (by decide) ?_
        refine q_off (j := 14) rfl rfl (by first | (simp; done) | (simp [undef]; done)) (by decide) ?_
        refine q_off (j := 14) rfl rfl (by first | (simp; done) | (simp [undef]; done)) (by decide) ?_
        refine q_off (j := 14) rfl rfl (by first | (simp; done) | (simp [undef]; done)) (by decide) ?_
        refine q_off (j := 14) rfl rfl (by first | (simp; done) | (simp [undef]; done)) (by decide) ?_
        refine q_off (j := 14) rfl rfl (by first | (simp; done) | (simp [undef]; done)) (by decide) ?_
        refine q_off (j := 14) rfl rfl (by first | (simp; done) | (simp [undef]; done)) (by decide) ?_
        refine q_off (j := 14) rfl rfl (by first | (simp; done) | (simp [undef]; done)) (by decide) ?_
        refine q_off (j := 14) rfl rfl (by first | (simp; done) | (simp [undef]; done)) (by decide) ?_
        refine q_off (j := 14) rfl rfl (by first | (simp; done) | (simp [undef]; done)) (by decide) ?_
        refine q_off (j := 14) rfl rfl (by first | (simp; done) | (simp [undef]; done)) (by decide) ?_
        refine q_off (j := 14) rfl rfl (by first | (simp; done) | (simp [undef]; done)) (by decide) ?_
        refine q_off (j := 14) rfl rfl (by first | (simp; done) | (simp [undef]; done)) (by decide) ?_
        refine q_off (j := 14) rfl rfl (by first | (simp; done) | (simp [undef]; done)) (by decide) ?_
        refine q_q (by decide) (p_pick rfl rfl).q ?_
        refine q_nil ?_
        refine c_false rfl ?_
        refine c_exit ?_
        refine c_here ?_
        obtain rfl : k = Td.suf a b := Td.suf_exit hk (.inr (.inl h42))
        refine c_join (()) ?inv ?sub ?perm ?facts
        case sub => exact ⟨rfl, rfl, rfl, rfl, rfl, trivial⟩
        case perm =>
          exact .refl _
        case facts => exact fun _ h => absurd h List.not_mem_nil
        case inv =>
          trivial
    · skip
      refine q_off (j := 6) rfl rfl (by first | (simp; done) | (simp [undef]; done)) (by decide) ?_
      refine q_off (j := 6) rfl rfl (by first | (simp; done) | (simp [undef]; done)) (by decide) ?_
      refine q_off (j := 6) rfl rfl (by first | (simp; done) | (simp [undef]; done)) (by decide) ?_
      refine q_off (j := 6) rfl rfl (by first | (simp; done) | (simp [undef]; done)) (by decide) ?_
      refine q_off (j := 6) rfl rfl (by first | (simp; done) | (simp [undef]; done)) (by decide) ?_
      refine q_off (j := 6) rfl rfl (by first | (simp; done) | (simp [undef]; done)) (by decide) ?_
      refine q_q (by decide) (p_pick rfl rfl).q ?_
      refine q_q (by decide) (p_move rfl).q ?_
      refine q_off (j := 14) rfl rfl (by first | (simp; done) | (simp [undef]; done)) (by decide) ?_
      refine q_off (j := 14) rfl rfl (by first | (simp; done) | (simp [undef]; done)) (by decide) ?_
      refine q_off (j := 14) rfl rfl (by first | (simp; done) | (simp [undef]; done)) (by decide) ?_
      refine q_off (j := 14) rfl rfl (by first | (simp; done) | (simp [undef]; done)) (by decide) ?_
      refine q_off (j := 14) rfl rfl (by first | (simp; done) | (simp [undef]; done)) (by decide) ?_
      refine q_off (j := 14) rfl rfl (by first | (simp; done) | (simp [undef]; done)) (by decide) ?_
      refine q_off (j := 14) rfl rfl (by first | (simp; done) | (simp [undef]; done)) (by decide) ?_
      refine q_off (j := 14) rfl rfl (by first | (simp; done) | (simp [undef]; done)) (by decide) ?_
      refine q_off (j := 14) rfl rfl (by first | (simp; done) | (simp [undef]; done)) (by decide) ?_
      refine q_off (j := 14) rfl rfl (by first | (simp; done) | (simp [undef]; done)) (by decide) ?_
      refine q_off (j := 14) rfl rfl (by first | (simp; done) | (simp [undef]; done)) (by decide) ?_
      refine q_off (j := 14) rfl rfl (by first | (simp; done) | (simp [undef]; done)) (by decide) ?_
      refine q_off (j := 14) rfl rfl (by first | (simp; done) | (simp [undef]; done)) (by decide) ?_
      refine q_off (j := 14) rfl rfl (by first | (simp; done) | (simp [undef]; done)) (by decide) ?_
      refine q_off (j := 14) rfl rfl (by first | (simp; done) | (simp [undef]; done)) (by decide) ?_
      refine q_q (by decide) (p_pick rfl rfl).q ?_
      refine q_nil ?_
      refine c_false rfl ?_
      refine c_exit ?_
      refine c_here ?_
      obtain rfl : k = Td.suf a b := Td.suf_exit hk (.inl h34)
      refine c_join (()) ?inv ?sub ?perm ?facts
      case sub => exact ⟨rfl, rfl, rfl, rfl, rfl, trivial⟩
      case perm =>
        exact .refl _
      case facts => exact fun _ h => absurd h List.not_mem_nil
      case inv =>
        trivial
  rintro uu hmeet
  show Cont _ _ _ _ [(0, str a), (1, str b), (4, .pointer (some ⟨b4, 0, none⟩)), (5, .int .i64 (Td.lcp a b : Int)), (6, .int .i64 (Td.suf a b : Int))] ([iCells b4 30 [.int .i64 0, .int .i64 0, str []]]) []
  refine c_seq ?_
  refine c_reg ?_
  refine l_q (by decide) (p_move rfl).q ?_
  refine l_q (by decide) (p_move rfl).q ?_
  refine l_q (by decide) (p_len_str Try.underlying9 rfl).q ?_
  refine l_q (by decide) (p_move rfl).q ?_
  first | refine l_q (by decide) (p_sub rfl rfl rfl rfl (by omega) (by show _ ≤ (9223372036854775807 : Nat); omega)).q ?_ | refine l_q (by decide) (p_subi rfl rfl (by show (-9223372036854775808 : Int) ≤ _; omega) (by show _ ≤ ((9223372036854775807 : Nat) : Int); omega)).q ?_
  refine l_q (by decide) (p_move rfl).q ?_
  first | refine l_q (by decide) (p_sub rfl rfl rfl rfl (by omega) (by show _ ≤ (9223372036854775807 : Nat); omega)).q ?_ | refine l_q (by decide) (p_subi rfl rfl (by show (-9223372036854775808 : Int) ≤ _; omega) (by show _ ≤ ((9223372036854775807 : Nat) : Int); omega)).q ?_
  refine l_q (by decide) (p_move rfl).q ?_
  refine l_q (by decide) (p_move rfl).q ?_
  refine l_q (by decide) (p_move rfl).q ?_
  refine l_q (by decide) (p_len_str Try.underlying9 rfl).q ?_
  refine l_q (by decide) (p_move rfl).q ?_
  first | refine l_q (by decide) (p_sub rfl rfl rfl rfl (by omega) (by show _ ≤ (9223372036854775807 : Nat); omega)).q ?_ | refine l_q (by decide) (p_subi rfl rfl (by show (-9223372036854775808 : Int) ≤ _; omega) (by show _ ≤ ((9223372036854775807 : Nat) : Int); omega)).q ?_
  first | refine l_q (by decide) (((p_slice_lh Try.underlying9 rfl rfl rfl rfl rfl (by omega) (by omega))).to (u := str (Td.hull a b).ins) (by show str _ = str _; congr 1; show List.take _ _ = List.take _ _; congr 1; omega)).q ?_ | refine l_q (by decide) (((p_slice_lh Try.underlying9 rfl rfl rfl rfl rfl (by omega) (by simp; omega))).to (u := str (Td.hull a b).ins) (by show str _ = str _; congr 1; show List.take _ _ = List.take _ _; congr 1; omega)).q ?_
  refine l_q (by decide) (p_build (cells := #[_, _, _]) inf_30 pl_30 rfl rfl).q ?_
  first | (refine l_storew inf_30 rfl rfl rfl rfl rfl ?_) | (refine l_perm (front1 _ _ _) ?_; refine l_storew inf_30 rfl rfl rfl rfl rfl ?_) | (refine l_perm (front2 _ _ _ _) ?_; refine l_storew inf_30 rfl rfl rfl rfl rfl ?_) | (refine l_perm (front3 _ _ _ _ _) ?_; refine l_storew inf_30 rfl rfl rfl rfl rfl ?_) | (refine l_perm (front4 _ _ _ _ _ _) ?_; refine l_storew inf_30 rfl rfl rfl rfl rfl ?_) | (refine l_storea inf_30 rfl rfl rfl rfl (by decide) ?_) | (refine l_perm (front1 _ _ _) ?_; refine l_storea inf_30 rfl rfl rfl rfl (by decide) ?_) | (refine l_perm (front2 _ _ _ _) ?_; refine l_storea inf_30 rfl rfl rfl rfl (by decide) ?_)
  refine l_nil ?_
  refine c_ret ?_
  refine c_retcw rfl rfl Try.underlying30 rfl inf_30 (by repeat (first | exact List.Mem.head _ | apply List.Mem.tail)) (by rfl) (fun w hs => ?_)
  exact ⟨rfl, hs.ext⟩

theorem same_ok (A B : Option Addr) (c d : Nat) (l m : List Td.E) (hl : l.length < 1000000) (w : World) (hq : Sl 3 edF A l w) (hp : Sl 3 edF B m w) :
    Calls Try.prog 14 #[.slice A l.length c, .slice B m.length d] w (Ret fun v w' => v = .bool (decide (l = m)) ∧ Ext [] w w') := by
  refine calls_fx (l := [.slice A l.length c, .slice B m.length d]) Try.func14 rfl Try.ntmps14 (Nat.le_of_ble_eq_true rfl) (Holds.two hq (dep_sl (by decide) hq) hp (dep_sl (by decide) hp)) ?_
  refine c_seq ?_
  refine c_reg ?_
  refine l_q (by decide) (p_assign rfl).q ?_
  refine l_nil ?_
  refine c_seq ?_
  refine c_seq ?_
  refine c_reg ?_
  refine l_q (by decide) (p_move rfl).q ?_
  refine l_q (by decide) (p_len_sl Try.underlying27 rfl).q ?_
  refine l_q (by decide) (p_move rfl).q ?_
  refine l_q (by decide) (p_len_sl Try.underlying27 rfl).q ?_
  first | refine l_q (by decide) (p_neq rfl rfl rfl rfl).q ?_ | refine l_q (by decide) (p_neqi rfl rfl).q ?_
  refine l_nil ?_
  first | refine c_dec rfl (fun h10 => ?_) (fun h10 => ?_) | refine c_cond rfl (fun h10 => ?_) (fun h10 => ?_)
  · skip
    refine c_seq ?_
    refine c_reg ?_
    refine l_q (by decide) (p_assign rfl).q ?_
    refine l_nil ?_
    refine c_ret ?_
    refine c_ret1 rfl rfl (fun w hs => ?_)
    exact ⟨by rw [decide_eq_false (fun h => h10 (by rw [h]))], hs.ext⟩
  · skip
    refine c_skip ?_
    refine c_seq ?_
    refine c_seq ?_
    refine c_reg ?_
    refine l_q (by decide) (p_assign (v := .int .i64 ((0 : Nat) : Int)) rfl).q ?_
    refine l_nil ?_
    refine c_block ?_
    refine c_loop (S := Nat) (fun s => s ≤ l.length ∧ l.take s = m.take s) (fun s => l.length - s) (fun s => [(0, .slice A l.length c), (1, .slice B m.length d), (5, .int .i64 (s : Int))]) (fun s => []) (fun s => [Sl 3 edF A l, Sl 3 edF B m]) (0) ?_ ?_ ?_ ?_ ?_
    · show (0) ≤ l.length ∧ l.take (0) = m.take (0)
      exact ⟨Nat.zero_le _, rfl⟩
    · exact ⟨rfl, rfl, rfl, trivial⟩
    · exact .refl _
    · exact fun _ h => h
    rintro k hinv
    have hinv : k ≤ l.length ∧ l.take k = m.take k := hinv
    obtain ⟨hk, he⟩ := hinv
    show Cont _ _ _ _ [(0, .slice A l.length c), (1, .slice B m.length d), (5, .int .i64 (k : Int))] ([]) [Sl 3 edF A l, Sl 3 edF B m]
    refine c_seq ?_
    refine c_seq ?_
    refine c_reg ?_
    refine l_q (by decide) (p_move rfl).q ?_
    refine l_q (by decide) (p_move rfl).q ?_
    refine l_q (by decide) (p_len_sl Try.underlying27 rfl).q ?_
    first | refine l_q (by decide) (p_lss rfl rfl rfl rfl).q ?_ | refine l_q (by decide) (p_lssi rfl rfl).q ?_
    refine l_nil ?_
    first | refine c_dec rfl (fun h14 => ?_) (fun h14 => ?_) | refine c_cond rfl (fun h14 => ?_) (fun h14 => ?_)
    · skip
      have h10 := Classical.not_not.1 h10
      obtain ⟨u, hu⟩ : ∃ u, l[k]? = some u := ⟨_, List.getElem?_eq_getElem (by omega)⟩
      obtain ⟨u2, hu2⟩ : ∃ u, m[k]? = some u := ⟨_, List.getElem?_eq_getElem (by omega)⟩
      refine c_skip ?_
      refine c_seq ?_
      refine c_block ?_
      refine c_seq ?_
      refine c_draw mixed (by decide +kernel) ?_
      refine q_q (by decide) (p_move rfl).q ?_
      refine q_q (by decide) (p_move rfl).q ?_
      first | refine q_q (by decide) (r_index Try.underlying27 inf_30 rfl rfl rfl (by first | exact .fact (by repeat (first | exact List.Mem.head _ | apply List.Mem.tail)) | exact .own (by repeat (first | exact List.Mem.head _ | apply List.Mem.tail)) (by decide) (fun _ => rfl)) rfl (by omega)).q ?_ | refine q_q (by decide) (r_index Try.underlying27 inf_30 rfl rfl rfl (by first | exact .fact (by repeat (first | exact List.Mem.head _ | apply List.Mem.tail)) | exact .own (by repeat (first | exact List.Mem.head _ | apply List.Mem.tail)) (by decide) (fun _ => rfl)) rfl (by decide)).q ?_ | refine q_q (by decide) (p_indexo Try.underlying27 inf_30 rfl rfl rfl (by omega)).q ?_
      first | refine q_q (by decide) (r_loada Try.underlying30 rfl inf_30 rfl (by first | exact .fact (by repeat (first | exact List.Mem.head _ | apply List.Mem.tail)) | exact .own (by repeat (first | exact List.Mem.head _ | apply List.Mem.tail)) (by decide) (fun _ => rfl)) (by assumption)).q ?_ | refine q_q (by decide) (r_loadow Try.underlying30 rfl inf_30 rfl (by repeat (first | exact List.Mem.head _ | apply List.Mem.tail)) (by rfl)).q ?_ | refine q_q (by decide) (r_loadoa Try.underlying30 rfl inf_30 rfl (by repeat (first | exact List.Mem.head _ | apply List.Mem.tail)) (by rfl) (fun j u h => h)).q ?_
      refine q_q (by decide) (p_move rfl).q ?_
      refine q_q (by decide) (p_move rfl).q ?_
      first | refine q_q (by decide) (r_index Try.underlying27 inf_30 rfl rfl rfl (by first | exact .fact (by repeat (first | exact List.Mem.head _ | apply List.Mem.tail)) | exact .own (by repeat (first | exact List.Mem.head _ | apply List.Mem.tail)) (by decide) (fun _ => rfl)) rfl (by omega)).q ?_ | refine q_q (by decide) (r_index Try.underlying27 inf_30 rfl rfl rfl (by first | exact .fact (by repeat (first | exact List.Mem.head _ | apply List.Mem.tail)) | exact .own (by repeat (first | exact List.Mem.head _ | apply List.Mem.tail)) (by decide) (fun _ => rfl)) rfl (by decide)).q ?_ | refine q_q (by decide) (p_indexo Try.underlying27 inf_30 rfl rfl rfl (by omega)).q ?_
      first | refine q_q (by decide) (r_loada Try.underlying30 rfl inf_30 rfl (by first | exact .fact (by repeat (first | exact List.Mem.head _ | apply List.Mem.tail)) | exact .own (by repeat (first | exact List.Mem.head _ | apply List.Mem.tail)) (by decide) (fun _ => rfl)) (by assumption)).q ?_ | refine q_q (by decide) (r_loadow Try.underlying30 rfl inf_30 rfl (by repeat (first | exact List.Mem.head _ | apply List.Mem.tail)) (by rfl)).q ?_ | refine q_q (by decide) (r_loadoa Try.underlying30 rfl inf_30 rfl (by repeat (first | exact List.Mem.head _ | apply List.Mem.tail)) (by rfl) (fun j u h => h)).q ?_
      refine q_q (by decide) (neq_ed rfl rfl).q ?_
      refine q_nil ?_
      first | refine c_dec rfl (fun h25 => ?_) (fun h25 => ?_) | refine c_cond rfl (fun h25 => ?_) (fun h25 => ?_)
      · skip
        refine c_seq ?_
        refine c_reg ?_
        refine l_q (by decide) (p_assign rfl).q ?_
        refine l_nil ?_
        refine c_ret ?_
        refine c_ret1 rfl rfl (fun w hs => ?_)
        exact ⟨by rw [decide_eq_false (fun h => h25 (by subst h; rw [hu] at hu2; injection hu2))], hs.ext⟩
      · skip
        refine c_skip ?_
        refine c_reg ?_
        refine l_q (by decide) (p_move rfl).q ?_
        first | refine l_q (by decide) (p_add (j := 1) rfl rfl rfl rfl (by show _ ≤ (9223372036854775807 : Nat); omega)).q ?_ | refine l_q (by decide) (p_addi rfl rfl (by show (-9223372036854775808 : Int) ≤ _; omega) (by show _ ≤ ((9223372036854775807 : Nat) : Int); omega)).q ?_
        refine l_q (by decide) (p_assign rfl).q ?_
        refine l_nil ?_
        refine c_join ((k + 1)) ?_ ?_ ?_ ?_
        · show ((k + 1) ≤ l.length ∧ l.take (k + 1) = m.take (k + 1)) ∧ l.length - (k + 1) < l.length - k
          exact ⟨⟨by omega, by rw [List.take_add_one, List.take_add_one, he, hu, hu2, Classical.not_not.1 h25]⟩, by omega⟩
        · exact ⟨rfl, rfl, rfl, trivial⟩
        · show List.Perm _ ([])
          exact .refl _
        · exact fun _ h => h
    · skip
      refine c_exit ?_
      refine c_here ?_
      refine c_seq ?_
      refine c_reg ?_
      refine l_q (by decide) (p_assign rfl).q ?_
      refine l_nil ?_
      refine c_ret ?_
      refine c_ret1 rfl rfl (fun w hs => ?_)
      have h10 := Classical.not_not.1 h10
      exact ⟨by rw [List.take_of_length_le (by omega), List.take_of_length_le (by omega)] at he; rw [decide_eq_true he], hs.ext⟩
end Go.Proofs.Ytnkmemoagimddaa
