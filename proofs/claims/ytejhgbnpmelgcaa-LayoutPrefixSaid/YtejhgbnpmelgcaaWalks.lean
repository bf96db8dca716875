/- The walks of the off-side rule, first part; conditions: lengths. -/
import Derived.Test.YtejhgbnpmelgcaaProg
import Derived.Test.YtejhgbnpmelgcaaFxO
import Derived.Test.YtejhgbnpmelgcaaFxD
import Derived.Test.YtejhgbnpmelgcaaPlain
namespace Go.Proofs.Ytejhgbnpmelgcaa
open Go Go.Fx Go.Proofs

def tokF (t : Lay.T) : List Value := [.int .i64 t.kind, .int .i64 t.at_, str t.text, .int .i64 t.look]
theorem len_tokF (t : Lay.T) : (tokF t).length = 4 := rfl
def natF (x : Nat) : List Value := [.int .i64 (x : Int)]
theorem len_natF (x : Nat) : (natF x).length = 1 := rfl
theorem len_intF (x : Int) : (intF x).length = 1 := rfl
theorem at_some {α : Type} {l : List α} {n : Nat} (h : n < l.length) : ∃ u, l[n]? = some u := ⟨_, List.getElem?_eq_getElem h⟩
theorem eq_tok {w : World} {e e' : Lay.T} : (Op.equalIn 10000 33 (.agg (tokF e).toArray) (.agg (tokF e').toArray)).run Try.prog w = .ok (decide (e = e')) w := by
    rw [eqf_struct Try.underlying33 (by kernel_rfl) w]
    rw [eqf_one (by decide) Try.underlying3 rfl rfl rfl w (eqv_int Try.underlying3 w), eqf_one (by decide) Try.underlying3 rfl rfl rfl w (eqv_int Try.underlying3 w), eqf_one (by decide) Try.underlying9 rfl rfl rfl w (eqv_str Try.underlying9 w), eqf_one (by decide) Try.underlying3 rfl rfl rfl w (eqv_int Try.underlying3 w), eqf_nil]
    obtain ⟨a, b, c, d⟩ := e
    obtain ⟨a', b', c', d'⟩ := e'
    simp only [Lay.T.mk.injEq]
    by_cases h1 : a = a'
    · by_cases h2 : b = b'
      · by_cases h3 : c = c'
        · by_cases h4 : d = d' <;> simp [h1, h2, h3, h4]
        · simp [h1, h2, h3]
      · simp [h1, h2]
    · simp [h1]
theorem neq_tok {L : Slots} {ty t2 : TypeId} {x y : Operand} {e e' : Lay.T} (hx : ev L x = some (.agg (tokF e).toArray)) (hy : ev L y = some (.agg (tokF e').toArray)) : Pure Try.prog (.binOp .neq 33 x y t2) ty L (.bool (decide (e ≠ e'))) := by
  have := p_neqst (P := Try.prog) (ty := ty) (t2 := t2) (by kernel_rfl) hx hy (fun w => eq_tok)
  rw [show decide (e ≠ e') = !(decide (e = e')) by simp]
  exact this
theorem start_hit {s : List UInt8} {k : Nat} {u : UInt8} (h : s[k]? = some u) (hu : u.toNat = 10) : Lay.start s (k + 1) = k + 1 := by
  have : u = 10 := UInt8.toNat_inj.1 hu
  subst this; unfold Lay.start; rw [if_pos h]
theorem start_miss {s : List UInt8} {k : Nat} {u : UInt8} (h : s[k]? = some u) (hu : ¬ u.toNat = 10) : Lay.start s (k + 1) = Lay.start s k := by
  rw [show Lay.start s (k + 1) = if s[k]? = some 10 then k + 1 else Lay.start s k by rw [Lay.start], h, if_neg]
  intro e; injection e with e; subst e; exact hu rfl
theorem wrap_small {a b c : Int} (ha : -9223372036854775808 ≤ a) (ha2 : a ≤ 9223372036854775807) (hb : -1000 ≤ b) (hb2 : b ≤ 1000) (hc : 0 ≤ c) (hc2 : c ≤ 2) : (IntKind.i64.wrap (a - b) = c) ↔ a = b + c := by
  simp only [IntKind.wrap, IntKind.bits, IntKind.signed]
  simp
  omega
theorem drop_at {α : Type} {l : List α} {k : Nat} {e : α} (h : l[k]? = some e) : l.drop k = e :: l.drop (k + 1) := by
  rw [List.drop_eq_getElem_cons (List.getElem?_eq_some_iff.1 h).1, (List.getElem?_eq_some_iff.1 h).2]
theorem take_at {α : Type} {l : List α} {k : Nat} {e : α} (h : l[k]? = some e) : l.take (k + 1) = l.take k ++ [e] := by rw [List.take_add_one, h]; rfl
theorem strip_step {defs : Int} {l : List Lay.T} {k : Nat} {e : Lay.T} (h : l[k]? = some e) : Lay.strip defs (l.take (k + 1)) = Lay.strip defs (l.take k) ++ (if e.kind < defs then [e] else []) := by
  rw [take_at h, Lay.strip_append]; congr 1
  unfold Lay.strip; split <;> rename_i hc <;> simp [hc]
theorem bal_at {defs : Int} {l : List Lay.T} {k : Nat} {e : Lay.T} (h : l[k]? = some e) (n : Int) : Lay.bal defs n (l.drop k) = if Lay.move defs n e < 0 then false else Lay.bal defs (Lay.move defs n e) (l.drop (k + 1)) := by
  rw [drop_at h, Lay.bal]
theorem strip_len (defs : Int) (l : List Lay.T) (k : Nat) : (Lay.strip defs (l.take k)).length ≤ k := by
  have := List.length_filter_le (fun t : Lay.T => decide (t.kind < defs)) (l.take k)
  have h2 : (l.take k).length ≤ k := by rw [List.length_take]; omega
  unfold Lay.strip; omega
theorem mixed : Try.prog.follows .mixedOrders = true := by kernel_rfl
theorem inf_3 : InfoIs Try.prog 3 1 8 (.int .i64 0) := by unfold InfoIs; kernel_rfl
theorem inf_33 : InfoIs Try.prog 33 4 40 (.agg #[.int .i64 0, .int .i64 0, .string ⟨#[]⟩, .int .i64 0]) := by unfold InfoIs; kernel_rfl
theorem call_25 : Callable Try.prog 25 := ⟨_, Try.func25, by kernel_rfl, rfl⟩
theorem lastix_ok (l : List UInt8) (hl : l.length ≤ 100000) (w : World) :
    Calls Try.prog 25 #[str l, .int .u8 10] w (Ret fun v w' => v = .int .i64 ((Lay.start l l.length : Int) - 1) ∧ Ext [] w w') := by
  refine calls_fx (l := [str l, .int .u8 10]) Try.func25 rfl Try.ntmps25 (Nat.le_of_ble_eq_true rfl) (St.start w) ?_
  refine c_seq ?_
  refine c_reg ?_
  refine l_q (by decide) (p_assign (v := .int .i64 ((0 : Nat) : Int)) rfl).q ?_
  refine l_nil ?_
  refine c_seq ?_
  refine c_seq ?_
  refine c_reg ?_
  refine l_q (by decide) (p_move rfl).q ?_
  refine l_q (by decide) (p_len_str Try.underlying9 rfl).q ?_
  first | refine l_q (by decide) (p_sub (j := 1) rfl rfl rfl rfl (by omega) (by show _ ≤ (9223372036854775807 : Nat); omega)).q ?_ | refine l_q (by decide) (p_subi rfl rfl (by show (-9223372036854775808 : Int) ≤ _; omega) (by show _ ≤ ((9223372036854775807 : Nat) : Int); omega)).q ?_
  refine l_q (by decide) (p_assign rfl).q ?_
  refine l_nil ?_
  refine c_block ?_
  refine c_loop (S := Nat) (fun zs => zs ≤ l.length ∧ Lay.start l l.length = Lay.start l (l.length - zs)) (fun zs => l.length - zs) (fun zs => [(0, str l), (1, .int .u8 10), (5, .int .i64 ((l.length : Int) - 1 - (zs : Int)))]) (fun zs => []) (fun zs => []) (0) ?_ ?_ ?_ ?_ ?_
  · show (0) ≤ l.length ∧ Lay.start l l.length = Lay.start l (l.length - (0))
    exact ⟨Nat.zero_le _, rfl⟩
  · exact ⟨rfl, rfl, (by show some _ = some _; congr 2 <;> omega), trivial⟩
  · exact .refl _
  · exact fun _ h => absurd h List.not_mem_nil
  rintro p hinv
  have hinv : p ≤ l.length ∧ Lay.start l l.length = Lay.start l (l.length - p) := hinv
  obtain ⟨hp, he⟩ := hinv
  show Cont _ _ _ _ [(0, str l), (1, .int .u8 10), (5, .int .i64 ((l.length : Int) - 1 - (p : Int)))] ([]) []
  refine c_seq ?_
  refine c_seq ?_
  refine c_reg ?_
  refine l_q (by decide) (p_move rfl).q ?_
  first | refine l_q (by decide) (p_geq (j := 0) rfl rfl rfl rfl).q ?_ | refine l_q (by decide) (p_geqi rfl rfl).q ?_
  refine l_nil ?_
  first | refine c_dec rfl (fun h10 => ?_) (fun h10 => ?_) | refine c_cond rfl (fun h10 => ?_) (fun h10 => ?_)
  · skip
    have h10 : (l.length : Int) - 1 - (p : Int) ≥ 0 := h10
    obtain ⟨j, hj⟩ : ∃ j, j + 1 + p = l.length := ⟨l.length - 1 - p, by omega⟩
    rw [show ((l.length : Int) - 1 - (p : Int)) = ((j : Nat) : Int) by omega]
    obtain ⟨u, hu⟩ := at_some (l := l) (n := j) (by omega)
    refine c_skip ?_
    refine c_seq ?_
    refine c_block ?_
    refine c_seq ?_
    refine c_reg ?_
    refine l_q (by decide) (p_move rfl).q ?_
    refine l_q (by decide) (p_move rfl).q ?_
    first | refine l_q (by decide) (p_index_str Try.underlying9 rfl rfl rfl (by assumption)).q ?_ | refine l_q (by decide) (p_index_str Try.underlying9 rfl rfl rfl (by simp; rfl)).q ?_
    refine l_q (by decide) (p_move rfl).q ?_
    first | refine l_q (by decide) (p_eql rfl rfl rfl rfl).q ?_ | refine l_q (by decide) (p_eqli rfl rfl).q ?_
    refine l_nil ?_
    first | refine c_dec rfl (fun h17 => ?_) (fun h17 => ?_) | refine c_cond rfl (fun h17 => ?_) (fun h17 => ?_)
    · skip
      refine c_seq ?_
      refine c_reg ?_
      refine l_q (by decide) (p_move rfl).q ?_
      refine l_q (by decide) (p_assign rfl).q ?_
      refine l_nil ?_
      refine c_ret ?_
      refine c_ret1 rfl rfl (fun w hs => ?_)
      exact ⟨by rw [he, show l.length - p = j + 1 by omega, start_hit hu h17]; congr 1; omega, hs.ext⟩
    · skip
      refine c_skip ?_
      refine c_reg ?_
      refine l_q (by decide) (p_move rfl).q ?_
      first | refine l_q (by decide) (p_sub (j := 1) rfl rfl rfl rfl (by omega) (by show _ ≤ (9223372036854775807 : Nat); omega)).q ?_ | refine l_q (by decide) (p_subi rfl rfl (by show (-9223372036854775808 : Int) ≤ _; omega) (by show _ ≤ ((9223372036854775807 : Nat) : Int); omega)).q ?_
      refine l_q (by decide) (p_assign rfl).q ?_
      refine l_nil ?_
      refine c_join ((p + 1)) ?_ ?_ ?_ ?_
      · show ((p + 1) ≤ l.length ∧ Lay.start l l.length = Lay.start l (l.length - (p + 1))) ∧ l.length - (p + 1) < l.length - p
        exact ⟨⟨by omega, by rw [he, show l.length - p = j + 1 by omega, start_miss hu h17]; congr 1; omega⟩, by omega⟩
      · exact ⟨rfl, rfl, (by show some _ = some _; congr 2 <;> omega), trivial⟩
      · show List.Perm _ ([])
        exact .refl _
      · exact fun _ h => absurd h List.not_mem_nil
  · skip
    refine c_exit ?_
    refine c_here ?_
    refine c_seq ?_
    refine c_reg ?_
    refine l_q (by decide) (p_assign rfl).q ?_
    refine l_nil ?_
    refine c_ret ?_
    refine c_ret1 rfl rfl (fun w hs => ?_)
    have h10 : ¬ (l.length : Int) - 1 - (p : Int) ≥ 0 := h10
    exact ⟨by rw [he, show l.length - p = 0 by omega]; rfl, hs.ext⟩

theorem lastbyte_ok (l : List UInt8) (hl : l.length ≤ 100000) (w : World) :
    Calls Try.prog 22 #[str l, .int .u8 10] w (Ret fun v w' => v = .int .i64 ((Lay.start l l.length : Int) - 1) ∧ Ext [] w w') := by
  refine calls_fx (l := [str l, .int .u8 10]) Try.func22 rfl Try.ntmps22 (Nat.le_of_ble_eq_true rfl) (St.start w) ?_
  refine c_seq ?_
  refine c_reg ?_
  refine l_q (by decide) (p_assign (v := .int .i64 ((0 : Nat) : Int)) rfl).q ?_
  refine l_nil ?_
  refine c_seq ?_
  refine c_reg ?_
  refine l_q (by decide) (p_move rfl).q ?_
  refine l_q (by decide) (p_move rfl).q ?_
  refine l_q (by decide) (q_call call_25 rfl (fun w hs => lastix_ok l hl w)) ?_
  refine l_q (by decide) (p_assign rfl).q ?_
  refine l_nil ?_
  refine c_ret ?_
  refine c_ret1 rfl rfl (fun w hs => ?_)
  exact ⟨rfl, hs.ext⟩

theorem start_ok (s : List UInt8) (k : Nat) (hk : k ≤ s.length) (hl : s.length ≤ 100000) (w : World) :
    Calls Try.prog 20 #[str s, .int .i64 (k : Int)] w (Ret fun v w' => v = .int .i64 (Lay.start s k : Int) ∧ Ext [] w w') := by
  refine calls_fx (l := [str s, .int .i64 (k : Int)]) Try.func20 rfl Try.ntmps20 (Nat.le_of_ble_eq_true rfl) (St.start w) ?_
  refine c_seq ?_
  refine c_reg ?_
  refine l_q (by decide) (p_assign (v := .int .i64 ((0 : Nat) : Int)) rfl).q ?_
  refine l_nil ?_
  refine c_seq ?_
  refine c_block ?_
  refine c_loop (S := Nat) (fun zs => zs ≤ k ∧ Lay.start s k = Lay.start s zs) (fun zs => zs) (fun zs => [(0, str s), (1, .int .i64 (zs : Int))]) (fun zs => []) (fun zs => []) (k) ?_ ?_ ?_ ?_ ?_
  · show (k) ≤ k ∧ Lay.start s k = Lay.start s (k)
    exact ⟨Nat.le_refl _, rfl⟩
  · exact ⟨rfl, rfl, trivial⟩
  · exact .refl _
  · exact fun _ h => absurd h List.not_mem_nil
  rintro j hinv
  have hinv : j ≤ k ∧ Lay.start s k = Lay.start s j := hinv
  obtain ⟨hj, he⟩ := hinv
  show Cont _ _ _ _ [(0, str s), (1, .int .i64 (j : Int))] ([]) []
  refine c_seq ?_
  refine c_seq ?_
  refine c_reg ?_
  refine l_q (by decide) (p_move rfl).q ?_
  first | refine l_q (by decide) (p_gtr (j := 0) rfl rfl rfl rfl).q ?_ | refine l_q (by decide) (p_gtri rfl rfl).q ?_
  refine l_q (by decide) (p_move rfl).q ?_
  first | refine l_splitd (t := 7) rfl (fun h7 => ?_) (fun h7 => ?_) | refine l_splitb (t := 7) rfl (fun h7 => ?_) (fun h7 => ?_)
  · skip
    obtain ⟨u, hu⟩ := at_some (l := s) (n := j - 1) (by omega)
    have hjj : Lay.start s j = Lay.start s (j - 1 + 1) := by congr 1; omega
    refine l_g (j := 2) rfl rfl (by decide) (p_move rfl).q ?_
    refine l_g (j := 2) rfl rfl (by decide) (p_move rfl).q ?_
    first | refine l_g (j := 2) rfl rfl (by decide) (p_sub (j := 1) rfl rfl rfl rfl (by omega) (by show _ ≤ (9223372036854775807 : Nat); omega)).q ?_ | refine l_g (j := 2) rfl rfl (by decide) (p_subi rfl rfl (by show (-9223372036854775808 : Int) ≤ _; omega) (by show _ ≤ ((9223372036854775807 : Nat) : Int); omega)).q ?_
    first | refine l_g (j := 2) rfl rfl (by decide) (p_index_str Try.underlying9 rfl rfl rfl (by assumption)).q ?_ | refine l_g (j := 2) rfl rfl (by decide) (p_index_str Try.underlying9 rfl rfl rfl (by simp; rfl)).q ?_
    first | refine l_g (j := 2) rfl rfl (by decide) (p_neq (j := 10) rfl rfl rfl rfl).q ?_ | refine l_g (j := 2) rfl rfl (by decide) (p_neqi rfl rfl).q ?_
    refine l_q (by decide) (p_pick rfl rfl).q ?_
    refine l_nil ?_
    first | refine c_dec rfl (fun h13 => ?_) (fun h13 => ?_) | refine c_cond rfl (fun h13 => ?_) (fun h13 => ?_)
    · skip
      refine c_skip ?_
      refine c_block ?_
      refine c_reg ?_
      refine l_q (by decide) (p_move rfl).q ?_
      first | refine l_q (by decide) (p_sub (j := 1) rfl rfl rfl rfl (by omega) (by show _ ≤ (9223372036854775807 : Nat); omega)).q ?_ | refine l_q (by decide) (p_subi rfl rfl (by show (-9223372036854775808 : Int) ≤ _; omega) (by show _ ≤ ((9223372036854775807 : Nat) : Int); omega)).q ?_
      refine l_q (by decide) (p_assign rfl).q ?_
      refine l_nil ?_
      refine c_join ((j - 1)) ?_ ?_ ?_ ?_
      · show ((j - 1) ≤ k ∧ Lay.start s k = Lay.start s (j - 1)) ∧ (j - 1) < j
        exact ⟨⟨by omega, by rw [he, hjj, start_miss hu (fun e => h13 e)]⟩, by omega⟩
      · exact ⟨rfl, rfl, trivial⟩
      · show List.Perm _ ([])
        exact .refl _
      · exact fun _ h => absurd h List.not_mem_nil
    · skip
      refine c_exit ?_
      refine c_here ?_
      refine c_seq ?_
      refine c_reg ?_
      refine l_q (by decide) (p_move rfl).q ?_
      refine l_q (by decide) (p_assign rfl).q ?_
      refine l_nil ?_
      refine c_ret ?_
      refine c_ret1 rfl rfl (fun w hs => ?_)
      have h13 := Classical.not_not.1 h13
      exact ⟨by rw [he, hjj, start_hit hu h13]; congr 1; omega, hs.ext⟩
  · skip
    refine l_off (j := 2) rfl rfl (by first | (simp; done) | (simp [undef]; done)) (by decide) ?_
    refine l_off (j := 2) rfl rfl (by first | (simp; done) | (simp [undef]; done)) (by decide) ?_
    refine l_off (j := 2) rfl rfl (by first | (simp; done) | (simp [undef]; done)) (by decide) ?_
    refine l_off (j := 2) rfl rfl (by first | (simp; done) | (simp [undef]; done)) (by decide) ?_
    refine l_off (j := 2) rfl rfl (by first | (simp; done) | (simp [undef]; done)) (by decide) ?_
    refine l_q (by decide) (p_pick rfl rfl).q ?_
    refine l_nil ?_
    refine c_false rfl ?_
    refine c_exit ?_
    refine c_here ?_
    refine c_seq ?_
    refine c_reg ?_
    refine l_q (by decide) (p_move rfl).q ?_
    refine l_q (by decide) (p_assign rfl).q ?_
    refine l_nil ?_
    refine c_ret ?_
    refine c_ret1 rfl rfl (fun w hs => ?_)
    exact ⟨by rw [he, show j = 0 by omega]; rfl, hs.ext⟩

theorem same_ok (A B : Option Addr) (c d : Nat) (l m : List Lay.T) (hl : l.length < 1000000) (w : World) (hq : Sl 4 tokF A l w) (hp : Sl 4 tokF B m w) :
    Calls Try.prog 12 #[.slice A l.length c, .slice B m.length d] w (Ret fun v w' => v = .bool (decide (l = m)) ∧ Ext [] w w') := by
  refine calls_fx (l := [.slice A l.length c, .slice B m.length d]) Try.func12 rfl Try.ntmps12 (Nat.le_of_ble_eq_true rfl) (Holds.two hq (dep_sl (by decide) hq) hp (dep_sl (by decide) hp)) ?_
  refine c_seq ?_
  refine c_reg ?_
  refine l_q (by decide) (p_assign rfl).q ?_
  refine l_nil ?_
  refine c_seq ?_
  refine c_seq ?_
  refine c_reg ?_
  refine l_q (by decide) (p_move rfl).q ?_
  refine l_q (by decide) (p_len_sl Try.underlying22 rfl).q ?_
  refine l_q (by decide) (p_move rfl).q ?_
  refine l_q (by decide) (p_len_sl Try.underlying22 rfl).q ?_
  first | refine l_q (by decide) (p_neq rfl rfl rfl rfl).q ?_ | refine l_q (by decide) (p_neqi rfl rfl).q ?_
  refine l_nil ?_
  first | refine c_dec rfl (fun h10 => ?_) (fun h10 => ?_) | refine c_cond rfl (fun h10 => ?_) (fun h10 => ?_)
  · skip
    refine c_seq ?_
    refine c_reg ?_
    refine l_q (by decide) (p_assign rfl).q ?_
    refine l_nil ?_
    refine c_ret ?_
    refine c_ret1 rfl rfl (fun w hs => ?_)
    exact ⟨by rw [decide_eq_false (fun h => h10 (by rw [h]))], hs.ext⟩
  · skip
    refine c_skip ?_
    refine c_seq ?_
    refine c_seq ?_
    refine c_reg ?_
    refine l_q (by decide) (p_assign (v := .int .i64 ((0 : Nat) : Int)) rfl).q ?_
    refine l_nil ?_
    refine c_block ?_
    refine c_loop (S := Nat) (fun zs => zs ≤ l.length ∧ l.take zs = m.take zs) (fun zs => l.length - zs) (fun zs => [(0, .slice A l.length c), (1, .slice B m.length d), (5, .int .i64 (zs : Int))]) (fun zs => []) (fun zs => [Sl 4 tokF A l, Sl 4 tokF B m]) (0) ?_ ?_ ?_ ?_ ?_
    · show (0) ≤ l.length ∧ l.take (0) = m.take (0)
      exact ⟨Nat.zero_le _, rfl⟩
    · exact ⟨rfl, rfl, rfl, trivial⟩
    · exact .refl _
    · simp
    rintro k hinv
    have hinv : k ≤ l.length ∧ l.take k = m.take k := hinv
    obtain ⟨hk, he⟩ := hinv
    show Cont _ _ _ _ [(0, .slice A l.length c), (1, .slice B m.length d), (5, .int .i64 (k : Int))] ([]) [Sl 4 tokF A l, Sl 4 tokF B m]
    refine c_seq ?_
    refine c_seq ?_
    refine c_reg ?_
    refine l_q (by decide) (p_move rfl).q ?_
    refine l_q (by decide) (p_move rfl).q ?_
    refine l_q (by decide) (p_len_sl Try.underlying22 rfl).q ?_
    first | refine l_q (by decide) (p_lss rfl rfl rfl rfl).q ?_ | refine l_q (by decide) (p_lssi rfl rfl).q ?_
    refine l_nil ?_
    first | refine c_dec rfl (fun h14 => ?_) (fun h14 => ?_) | refine c_cond rfl (fun h14 => ?_) (fun h14 => ?_)
    · skip
      have h10 := Classical.not_not.1 h10
      obtain ⟨u, hu⟩ := at_some (l := l) (n := k) (by omega)
      obtain ⟨u2, hu2⟩ := at_some (l := m) (n := k) (by omega)
      refine c_skip ?_
      refine c_seq ?_
      refine c_block ?_
      refine c_seq ?_
      refine c_draw mixed (by decide +kernel) ?_
      refine q_q (by decide) (p_move rfl).q ?_
      refine q_q (by decide) (p_move rfl).q ?_
      first | refine q_q (by decide) (r_index Try.underlying22 inf_33 rfl rfl rfl (by first | exact .fact (by repeat (first | exact List.Mem.head _ | apply List.Mem.tail)) | exact .own (by repeat (first | exact List.Mem.head _ | apply List.Mem.tail)) (by decide) (fun _ => rfl)) rfl (by omega)).q ?_ | refine q_q (by decide) (r_index Try.underlying22 inf_33 rfl rfl rfl (by first | exact .fact (by repeat (first | exact List.Mem.head _ | apply List.Mem.tail)) | exact .own (by repeat (first | exact List.Mem.head _ | apply List.Mem.tail)) (by decide) (fun _ => rfl)) rfl (by decide)).q ?_ | refine q_q (by decide) (p_indexo Try.underlying22 inf_33 rfl rfl rfl (by omega)).q ?_
      first | refine q_q (by decide) (r_loada Try.underlying33 rfl inf_33 rfl (by first | exact .fact (by repeat (first | exact List.Mem.head _ | apply List.Mem.tail)) | exact .own (by repeat (first | exact List.Mem.head _ | apply List.Mem.tail)) (by decide) (fun _ => rfl)) (by assumption)).q ?_ | refine q_q (by decide) (r_loadow Try.underlying33 rfl inf_33 rfl (by repeat (first | exact List.Mem.head _ | apply List.Mem.tail)) (by rfl)).q ?_ | refine q_q (by decide) (r_loadoa Try.underlying33 rfl inf_33 rfl (by repeat (first | exact List.Mem.head _ | apply List.Mem.tail)) (by rfl) (fun j u h => h)).q ?_
      refine q_q (by decide) (p_move rfl).q ?_
      refine q_q (by decide) (p_move rfl).q ?_
      first | refine q_q (by decide) (r_index Try.underlying22 inf_33 rfl rfl rfl (by first | exact .fact (by repeat (first | exact List.Mem.head _ | apply List.Mem.tail)) | exact .own (by repeat (first | exact List.Mem.head _ | apply List.Mem.tail)) (by decide) (fun _ => rfl)) rfl (by omega)).q ?_ | refine q_q (by decide) (r_index Try.underlying22 inf_33 rfl rfl rfl (by first | exact .fact (by repeat (first | exact List.Mem.head _ | apply List.Mem.tail)) | exact .own (by repeat (first | exact List.Mem.head _ | apply List.Mem.tail)) (by decide) (fun _ => rfl)) rfl (by decide)).q ?_ | refine q_q (by decide) (p_indexo Try.underlying22 inf_33 rfl rfl rfl (by omega)).q ?_
      first | refine q_q (by decide) (r_loada Try.underlying33 rfl inf_33 rfl (by first | exact .fact (by repeat (first | exact List.Mem.head _ | apply List.Mem.tail)) | exact .own (by repeat (first | exact List.Mem.head _ | apply List.Mem.tail)) (by decide) (fun _ => rfl)) (by assumption)).q ?_ | refine q_q (by decide) (r_loadow Try.underlying33 rfl inf_33 rfl (by repeat (first | exact List.Mem.head _ | apply List.Mem.tail)) (by rfl)).q ?_ | refine q_q (by decide) (r_loadoa Try.underlying33 rfl inf_33 rfl (by repeat (first | exact List.Mem.head _ | apply List.Mem.tail)) (by rfl) (fun j u h => h)).q ?_
      refine q_q (by decide) (neq_tok rfl rfl).q ?_
      refine q_nil ?_
      first | refine c_dec rfl (fun h25 => ?_) (fun h25 => ?_) | refine c_cond rfl (fun h25 => ?_) (fun h25 => ?_)
      · skip
        refine c_seq ?_
        refine c_reg ?_
        refine l_q (by decide) (p_assign rfl).q ?_
        refine l_nil ?_
        refine c_ret ?_
        refine c_ret1 rfl rfl (fun w hs => ?_)
        exact ⟨by rw [decide_eq_false (fun h => h25 (by subst h; rw [hu] at hu2; injection hu2))], hs.ext⟩
      · skip
        refine c_skip ?_
        refine c_reg ?_
        refine l_q (by decide) (p_move rfl).q ?_
        first | refine l_q (by decide) (p_add (j := 1) rfl rfl rfl rfl (by show _ ≤ (9223372036854775807 : Nat); omega)).q ?_ | refine l_q (by decide) (p_addi rfl rfl (by show (-9223372036854775808 : Int) ≤ _; omega) (by show _ ≤ ((9223372036854775807 : Nat) : Int); omega)).q ?_
        refine l_q (by decide) (p_assign rfl).q ?_
        refine l_nil ?_
        refine c_join ((k + 1)) ?_ ?_ ?_ ?_
        · show ((k + 1) ≤ l.length ∧ l.take (k + 1) = m.take (k + 1)) ∧ l.length - (k + 1) < l.length - k
          exact ⟨⟨by omega, by rw [take_at hu, take_at hu2, he, Classical.not_not.1 h25]⟩, by omega⟩
        · exact ⟨rfl, rfl, rfl, trivial⟩
        · show List.Perm _ ([])
          exact .refl _
        · exact fun _ h => h
    · skip
      refine c_exit ?_
      refine c_here ?_
      refine c_seq ?_
      refine c_reg ?_
      refine l_q (by decide) (p_assign rfl).q ?_
      refine l_nil ?_
      refine c_ret ?_
      refine c_ret1 rfl rfl (fun w hs => ?_)
      have h10 := Classical.not_not.1 h10
      exact ⟨by rw [List.take_of_length_le (by omega), List.take_of_length_le (by omega)] at he; rw [decide_eq_true he], hs.ext⟩

theorem kinds_ok (A B : Option Addr) (c d : Nat) (l : List Lay.T) (m : List Int) (hl : l.length < 1000000) (w : World) (hq : Sl 4 tokF A l w) (hp : Sl 1 intF B m w) :
    Calls Try.prog 21 #[.slice A l.length c, .slice B m.length d] w (Ret fun v w' => v = .bool (decide (Lay.kinds l = m)) ∧ Ext [] w w') := by
  refine calls_fx (l := [.slice A l.length c, .slice B m.length d]) Try.func21 rfl Try.ntmps21 (Nat.le_of_ble_eq_true rfl) (Holds.two hq (dep_sl (by decide) hq) hp (dep_sl (by decide) hp)) ?_
  refine c_seq ?_
  refine c_reg ?_
  refine l_q (by decide) (p_assign rfl).q ?_
  refine l_nil ?_
  refine c_seq ?_
  refine c_seq ?_
  refine c_reg ?_
  refine l_q (by decide) (p_move rfl).q ?_
  refine l_q (by decide) (p_len_sl Try.underlying22 rfl).q ?_
  refine l_q (by decide) (p_move rfl).q ?_
  refine l_q (by decide) (p_len_sl Try.underlying35 rfl).q ?_
  first | refine l_q (by decide) (p_neq rfl rfl rfl rfl).q ?_ | refine l_q (by decide) (p_neqi rfl rfl).q ?_
  refine l_nil ?_
  first | refine c_dec rfl (fun h10 => ?_) (fun h10 => ?_) | refine c_cond rfl (fun h10 => ?_) (fun h10 => ?_)
  · skip
    refine c_seq ?_
    refine c_reg ?_
    refine l_q (by decide) (p_assign rfl).q ?_
    refine l_nil ?_
    refine c_ret ?_
    refine c_ret1 rfl rfl (fun w hs => ?_)
    exact ⟨by rw [decide_eq_false (fun h => h10 (by rw [← h]; simp [Lay.kinds]))], hs.ext⟩
  · skip
    refine c_skip ?_
    refine c_seq ?_
    refine c_seq ?_
    refine c_reg ?_
    refine l_q (by decide) (p_assign (v := .int .i64 ((0 : Nat) : Int)) rfl).q ?_
    refine l_nil ?_
    refine c_block ?_
    refine c_loop (S := Nat) (fun zs => zs ≤ l.length ∧ (Lay.kinds l).take zs = m.take zs) (fun zs => l.length - zs) (fun zs => [(0, .slice A l.length c), (1, .slice B m.length d), (5, .int .i64 (zs : Int))]) (fun zs => []) (fun zs => [Sl 4 tokF A l, Sl 1 intF B m]) (0) ?_ ?_ ?_ ?_ ?_
    · show (0) ≤ l.length ∧ (Lay.kinds l).take (0) = m.take (0)
      exact ⟨Nat.zero_le _, rfl⟩
    · exact ⟨rfl, rfl, rfl, trivial⟩
    · exact .refl _
    · simp
    rintro k hinv
    have hinv : k ≤ l.length ∧ (Lay.kinds l).take k = m.take k := hinv
    obtain ⟨hk, he⟩ := hinv
    show Cont _ _ _ _ [(0, .slice A l.length c), (1, .slice B m.length d), (5, .int .i64 (k : Int))] ([]) [Sl 4 tokF A l, Sl 1 intF B m]
    refine c_seq ?_
    refine c_seq ?_
    refine c_reg ?_
    refine l_q (by decide) (p_move rfl).q ?_
    refine l_q (by decide) (p_move rfl).q ?_
    refine l_q (by decide) (p_len_sl Try.underlying22 rfl).q ?_
    first | refine l_q (by decide) (p_lss rfl rfl rfl rfl).q ?_ | refine l_q (by decide) (p_lssi rfl rfl).q ?_
    refine l_nil ?_
    first | refine c_dec rfl (fun h14 => ?_) (fun h14 => ?_) | refine c_cond rfl (fun h14 => ?_) (fun h14 => ?_)
    · skip
      have h10 := Classical.not_not.1 h10
      obtain ⟨u, hu⟩ := at_some (l := l) (n := k) (by omega)
      obtain ⟨u2, hu2⟩ := at_some (l := m) (n := k) (by omega)
      have hu3 : (Lay.kinds l)[k]? = some u.kind := by simp [Lay.kinds, hu]
      refine c_skip ?_
      refine c_seq ?_
      refine c_block ?_
      refine c_seq ?_
      refine c_draw mixed (by decide +kernel) ?_
      refine q_q (by decide) (p_move rfl).q ?_
      refine q_q (by decide) (p_move rfl).q ?_
      first | refine q_q (by decide) (r_index Try.underlying22 inf_33 rfl rfl rfl (by first | exact .fact (by repeat (first | exact List.Mem.head _ | apply List.Mem.tail)) | exact .own (by repeat (first | exact List.Mem.head _ | apply List.Mem.tail)) (by decide) (fun _ => rfl)) rfl (by omega)).q ?_ | refine q_q (by decide) (r_index Try.underlying22 inf_33 rfl rfl rfl (by first | exact .fact (by repeat (first | exact List.Mem.head _ | apply List.Mem.tail)) | exact .own (by repeat (first | exact List.Mem.head _ | apply List.Mem.tail)) (by decide) (fun _ => rfl)) rfl (by decide)).q ?_ | refine q_q (by decide) (p_indexo Try.underlying22 inf_33 rfl rfl rfl (by omega)).q ?_
      first | refine q_q (by decide) (p_faddr (i := 0) 0 Try.underlying33 rfl inf_3 (by decide) rfl rfl).q ?_ | refine q_q (by decide) (p_faddro (i := 0) 0 Try.underlying33 rfl inf_3 (by decide) rfl rfl).q ?_
      first | refine q_q (by decide) (r_loado Try.underlying3 rfl rfl (by repeat (first | exact List.Mem.head _ | apply List.Mem.tail)) (by rfl)).q ?_ | refine q_q (by decide) (r_load1 Try.underlying3 rfl rfl (by first | exact .fact (by repeat (first | exact List.Mem.head _ | apply List.Mem.tail)) | exact .own (by repeat (first | exact List.Mem.head _ | apply List.Mem.tail)) (by decide) (fun _ => rfl)) (by first | assumption | rfl) (by rfl)).q ?_ | refine q_q (by decide) (r_loadf Try.underlying3 rfl rfl (by first | exact .fact (by repeat (first | exact List.Mem.head _ | apply List.Mem.tail)) | exact .own (by repeat (first | exact List.Mem.head _ | apply List.Mem.tail)) (by decide) (fun _ => rfl)) (by assumption) (by rfl)).q ?_
      refine q_q (by decide) (p_move rfl).q ?_
      refine q_q (by decide) (p_move rfl).q ?_
      first | refine q_q (by decide) (r_index Try.underlying35 inf_3 rfl rfl rfl (by first | exact .fact (by repeat (first | exact List.Mem.head _ | apply List.Mem.tail)) | exact .own (by repeat (first | exact List.Mem.head _ | apply List.Mem.tail)) (by decide) (fun _ => rfl)) rfl (by omega)).q ?_ | refine q_q (by decide) (r_index Try.underlying35 inf_3 rfl rfl rfl (by first | exact .fact (by repeat (first | exact List.Mem.head _ | apply List.Mem.tail)) | exact .own (by repeat (first | exact List.Mem.head _ | apply List.Mem.tail)) (by decide) (fun _ => rfl)) rfl (by decide)).q ?_ | refine q_q (by decide) (p_indexo Try.underlying35 inf_3 rfl rfl rfl (by omega)).q ?_
      first | refine q_q (by decide) (r_loado Try.underlying3 rfl rfl (by repeat (first | exact List.Mem.head _ | apply List.Mem.tail)) (by rfl)).q ?_ | refine q_q (by decide) (r_load1 Try.underlying3 rfl rfl (by first | exact .fact (by repeat (first | exact List.Mem.head _ | apply List.Mem.tail)) | exact .own (by repeat (first | exact List.Mem.head _ | apply List.Mem.tail)) (by decide) (fun _ => rfl)) (by first | assumption | rfl) (by rfl)).q ?_ | refine q_q (by decide) (r_loadf Try.underlying3 rfl rfl (by first | exact .fact (by repeat (first | exact List.Mem.head _ | apply List.Mem.tail)) | exact .own (by repeat (first | exact List.Mem.head _ | apply List.Mem.tail)) (by decide) (fun _ => rfl)) (by assumption) (by rfl)).q ?_
      first | refine q_q (by decide) (p_neq rfl rfl rfl rfl).q ?_ | refine q_q (by decide) (p_neqi rfl rfl).q ?_
      refine q_nil ?_
      first | refine c_dec rfl (fun h26 => ?_) (fun h26 => ?_) | refine c_cond rfl (fun h26 => ?_) (fun h26 => ?_)
      · skip
        refine c_seq ?_
        refine c_reg ?_
        refine l_q (by decide) (p_assign rfl).q ?_
        refine l_nil ?_
        refine c_ret ?_
        refine c_ret1 rfl rfl (fun w hs => ?_)
        exact ⟨by rw [decide_eq_false (fun h => h26 (by subst h; rw [hu3] at hu2; injection hu2))], hs.ext⟩
      · skip
        refine c_skip ?_
        refine c_reg ?_
        refine l_q (by decide) (p_move rfl).q ?_
        first | refine l_q (by decide) (p_add (j := 1) rfl rfl rfl rfl (by show _ ≤ (9223372036854775807 : Nat); omega)).q ?_ | refine l_q (by decide) (p_addi rfl rfl (by show (-9223372036854775808 : Int) ≤ _; omega) (by show _ ≤ ((9223372036854775807 : Nat) : Int); omega)).q ?_
        refine l_q (by decide) (p_assign rfl).q ?_
        refine l_nil ?_
        refine c_join ((k + 1)) ?_ ?_ ?_ ?_
        · show ((k + 1) ≤ l.length ∧ (Lay.kinds l).take (k + 1) = m.take (k + 1)) ∧ l.length - (k + 1) < l.length - k
          exact ⟨⟨by omega, by rw [take_at hu3, take_at hu2, he, Classical.not_not.1 h26]⟩, by omega⟩
        · exact ⟨rfl, rfl, rfl, trivial⟩
        · show List.Perm _ ([])
          exact .refl _
        · exact fun _ h => h
    · skip
      refine c_exit ?_
      refine c_here ?_
      refine c_seq ?_
      refine c_reg ?_
      refine l_q (by decide) (p_assign rfl).q ?_
      refine l_nil ?_
      refine c_ret ?_
      refine c_ret1 rfl rfl (fun w hs => ?_)
      have h10 := Classical.not_not.1 h10
      exact ⟨by rw [List.take_of_length_le (by simp [Lay.kinds]; omega), List.take_of_length_le (by omega)] at he; rw [decide_eq_true he], hs.ext⟩

theorem strip_ok (A : Option Addr) (c : Nat) (l : List Lay.T) (defs : Int) (hl : l.length < 1000000) (w : World) (hq : Sl 4 tokF A l w) :
    Calls Try.prog 18 #[.slice A l.length c, .int .i64 defs] w (Ret fun v w' => ∃ x : Option Addr × Nat, v = .slice x.1 (Lay.strip defs l).length x.2 ∧ Sl 4 tokF x.1 (Lay.strip defs l) w' ∧ Dep w.heap.size w'.heap.size (Sl 4 tokF x.1 (Lay.strip defs l)) ∧ Ext [] w w') := by
  refine calls_fx (l := [.slice A l.length c, .int .i64 defs]) Try.func18 rfl Try.ntmps18 (Nat.le_of_ble_eq_true rfl) ((St.start w).old hq (dep_sl (by decide) hq)) ?_
  refine c_seq ?_
  refine c_reg ?_
  refine l_q (by decide) (p_assign rfl).q ?_
  refine l_nil ?_
  refine c_seq ?_
  refine c_reg ?_
  refine l_q (by decide) (p_assign rfl).q ?_
  refine l_nil ?_
  refine c_seq ?_
  refine c_seq ?_
  refine c_reg ?_
  refine l_q (by decide) (p_move rfl).q ?_
  refine l_q (by decide) (p_len_sl Try.underlying22 rfl).q ?_
  refine l_q (by decide) (p_move (v := .int .i64 ((0 : Nat) : Int)) rfl).q ?_
  refine l_nil ?_
  refine c_block ?_
  refine c_sl0 33 4 tokF ?_
  refine c_loop (S := Nat × Option Addr × Nat) (fun zs => zs.1 ≤ l.length) (fun zs => l.length - zs.1) (fun zs => [(1, .int .i64 defs), (5, .slice zs.2.1 (Lay.strip defs (l.take zs.1)).length zs.2.2), (8, .slice A l.length c), (9, .int .i64 (l.length : Int)), (10, .int .i64 (zs.1 : Int))]) (fun zs => [iSl 33 4 tokF zs.2.1 zs.2.2 (Lay.strip defs (l.take zs.1))]) (fun zs => [Sl 4 tokF A l]) (0, none, 0) ?_ ?_ ?_ ?_ ?_
  · show (0) ≤ l.length
    exact Nat.zero_le _
  · exact ⟨rfl, rfl, rfl, rfl, rfl, trivial⟩
  · exact .refl _
  · simp
  rintro ⟨k, B, d⟩ hinv
  have hinv : k ≤ l.length := hinv
  have hk := hinv
  show Cont _ _ _ _ [(1, .int .i64 defs), (5, .slice B (Lay.strip defs (l.take k)).length d), (8, .slice A l.length c), (9, .int .i64 (l.length : Int)), (10, .int .i64 (k : Int))] ([iSl 33 4 tokF B d (Lay.strip defs (l.take k))]) [Sl 4 tokF A l]
  refine c_seq ?_
  refine c_reg ?_
  first | refine l_q (by decide) (p_lss rfl rfl rfl rfl).q ?_ | refine l_q (by decide) (p_lssi rfl rfl).q ?_
  refine l_nil ?_
  refine c_seq ?_
  first | refine c_dec rfl (fun h11 => ?_) (fun h11 => ?_) | refine c_cond rfl (fun h11 => ?_) (fun h11 => ?_)
  · skip
    obtain ⟨u, hu⟩ := at_some (l := l) (n := k) (by omega)
    refine c_skip ?_
    refine c_seq ?_
    refine c_block ?_
    refine c_seq ?_
    refine c_reg ?_
    first | refine l_q (by decide) (r_index Try.underlying22 inf_33 rfl rfl rfl (by first | exact .fact (by repeat (first | exact List.Mem.head _ | apply List.Mem.tail)) | exact .own (by repeat (first | exact List.Mem.head _ | apply List.Mem.tail)) (by decide) (fun _ => rfl)) rfl (by omega)).q ?_ | refine l_q (by decide) (r_index Try.underlying22 inf_33 rfl rfl rfl (by first | exact .fact (by repeat (first | exact List.Mem.head _ | apply List.Mem.tail)) | exact .own (by repeat (first | exact List.Mem.head _ | apply List.Mem.tail)) (by decide) (fun _ => rfl)) rfl (by decide)).q ?_ | refine l_q (by decide) (p_indexo Try.underlying22 inf_33 rfl rfl rfl (by omega)).q ?_
    first | refine l_q (by decide) (r_loada Try.underlying33 rfl inf_33 rfl (by first | exact .fact (by repeat (first | exact List.Mem.head _ | apply List.Mem.tail)) | exact .own (by repeat (first | exact List.Mem.head _ | apply List.Mem.tail)) (by decide) (fun _ => rfl)) (by assumption)).q ?_ | refine l_q (by decide) (r_loadow Try.underlying33 rfl inf_33 rfl (by repeat (first | exact List.Mem.head _ | apply List.Mem.tail)) (by rfl)).q ?_ | refine l_q (by decide) (r_loadoa Try.underlying33 rfl inf_33 rfl (by repeat (first | exact List.Mem.head _ | apply List.Mem.tail)) (by rfl) (fun j u h => h)).q ?_
    refine l_alloc (by decide) inf_33 _ rfl (fun b7 => ?_)
    first | (refine l_storew inf_33 rfl rfl rfl rfl rfl ?_) | (refine l_perm (front1 _ _ _) ?_; refine l_storew inf_33 rfl rfl rfl rfl rfl ?_) | (refine l_perm (front2 _ _ _ _) ?_; refine l_storew inf_33 rfl rfl rfl rfl rfl ?_) | (refine l_perm (front3 _ _ _ _ _) ?_; refine l_storew inf_33 rfl rfl rfl rfl rfl ?_) | (refine l_perm (front4 _ _ _ _ _ _) ?_; refine l_storew inf_33 rfl rfl rfl rfl rfl ?_) | (refine l_storea inf_33 rfl rfl rfl rfl (by decide) ?_) | (refine l_perm (front1 _ _ _) ?_; refine l_storea inf_33 rfl rfl rfl rfl (by decide) ?_) | (refine l_perm (front2 _ _ _ _) ?_; refine l_storea inf_33 rfl rfl rfl rfl (by decide) ?_)
    refine l_nil ?_
    refine c_seq ?_
    refine c_reg ?_
    first | refine l_q (by decide) (p_faddr (i := 0) 0 Try.underlying33 rfl inf_3 (by decide) rfl rfl).q ?_ | refine l_q (by decide) (p_faddro (i := 0) 0 Try.underlying33 rfl inf_3 (by decide) rfl rfl).q ?_
    first | refine l_q (by decide) (r_loado Try.underlying3 rfl rfl (by repeat (first | exact List.Mem.head _ | apply List.Mem.tail)) (by rfl)).q ?_ | refine l_q (by decide) (r_load1 Try.underlying3 rfl rfl (by first | exact .fact (by repeat (first | exact List.Mem.head _ | apply List.Mem.tail)) | exact .own (by repeat (first | exact List.Mem.head _ | apply List.Mem.tail)) (by decide) (fun _ => rfl)) (by first | assumption | rfl) (by rfl)).q ?_ | refine l_q (by decide) (r_loadf Try.underlying3 rfl rfl (by first | exact .fact (by repeat (first | exact List.Mem.head _ | apply List.Mem.tail)) | exact .own (by repeat (first | exact List.Mem.head _ | apply List.Mem.tail)) (by decide) (fun _ => rfl)) (by assumption) (by rfl)).q ?_
    refine l_q (by decide) (p_move rfl).q ?_
    first | refine l_q (by decide) (p_lss rfl rfl rfl rfl).q ?_ | refine l_q (by decide) (p_lssi rfl rfl).q ?_
    refine l_nil ?_
    first | refine c_dec rfl (fun h17 => ?_) (fun h17 => ?_) | refine c_cond rfl (fun h17 => ?_) (fun h17 => ?_)
    · skip
      refine c_reg ?_
      refine l_q (by decide) (p_move rfl).q ?_
      first | refine l_q (by decide) (r_loada Try.underlying33 rfl inf_33 rfl (by first | exact .fact (by repeat (first | exact List.Mem.head _ | apply List.Mem.tail)) | exact .own (by repeat (first | exact List.Mem.head _ | apply List.Mem.tail)) (by decide) (fun _ => rfl)) (by assumption)).q ?_ | refine l_q (by decide) (r_loadow Try.underlying33 rfl inf_33 rfl (by repeat (first | exact List.Mem.head _ | apply List.Mem.tail)) (by rfl)).q ?_ | refine l_q (by decide) (r_loadoa Try.underlying33 rfl inf_33 rfl (by repeat (first | exact List.Mem.head _ | apply List.Mem.tail)) (by rfl) (fun j u h => h)).q ?_
      refine l_buildSlice (by decide) Try.underlying22 inf_33 (by decide) (by decide) rfl rfl rfl rfl (fun b20 => ?_)
      first | (refine l_append1 (u) (by decide) Try.underlying22 inf_33 rfl (by decide) rfl rfl rfl rfl rfl rfl (by have := strip_len defs l k; omega) (by have := strip_len defs l k; omega) (fun A21 c21 hA21 => ?_)) | (refine l_perm (.cons _ (front1 _ _ _)) ?_; refine l_append1 (u) (by decide) Try.underlying22 inf_33 rfl (by decide) rfl rfl rfl rfl rfl rfl (by have := strip_len defs l k; omega) (by have := strip_len defs l k; omega) (fun A21 c21 hA21 => ?_)) | (refine l_perm (.cons _ (front2 _ _ _ _)) ?_; refine l_append1 (u) (by decide) Try.underlying22 inf_33 rfl (by decide) rfl rfl rfl rfl rfl rfl (by have := strip_len defs l k; omega) (by have := strip_len defs l k; omega) (fun A21 c21 hA21 => ?_))
      refine l_q (by decide) (p_assign rfl).q ?_
      refine l_nil ?_
      refine c_reg ?_
      first | refine l_q (by decide) (p_add (j := 1) rfl rfl rfl rfl (by show _ ≤ (9223372036854775807 : Nat); omega)).q ?_ | refine l_q (by decide) (p_addi rfl rfl (by show (-9223372036854775808 : Int) ≤ _; omega) (by show _ ≤ ((9223372036854775807 : Nat) : Int); omega)).q ?_
      refine l_q (by decide) (p_move rfl).q ?_
      refine l_nil ?_
      first | (refine c_drop (x := iCells b7 _ _) ?_) | (refine c_perm (front1 _ _ _) ?_; refine c_drop (x := iCells b7 _ _) ?_) | (refine c_perm (front2 _ _ _ _) ?_; refine c_drop (x := iCells b7 _ _) ?_) | (refine c_perm (front3 _ _ _ _ _) ?_; refine c_drop (x := iCells b7 _ _) ?_) | (refine c_perm (front4 _ _ _ _ _ _) ?_; refine c_drop (x := iCells b7 _ _) ?_)
      refine c_join ((k + 1), (A21), (c21)) ?_ ?_ ?_ ?_
      · show ((k + 1) ≤ l.length) ∧ l.length - (k + 1) < l.length - k
        exact ⟨by omega, by omega⟩
      · exact ⟨rfl, (by rw [strip_step hu, if_pos h17]; rfl), rfl, rfl, rfl, trivial⟩
      · show List.Perm _ ([iSl 33 4 tokF (A21) (c21) (Lay.strip defs (l.take (k + 1)))])
        rw [strip_step hu, if_pos h17]
      · exact fun _ h => h
    · skip
      refine c_skip ?_
      refine c_reg ?_
      first | refine l_q (by decide) (p_add (j := 1) rfl rfl rfl rfl (by show _ ≤ (9223372036854775807 : Nat); omega)).q ?_ | refine l_q (by decide) (p_addi rfl rfl (by show (-9223372036854775808 : Int) ≤ _; omega) (by show _ ≤ ((9223372036854775807 : Nat) : Int); omega)).q ?_
      refine l_q (by decide) (p_move rfl).q ?_
      refine l_nil ?_
      first | (refine c_drop (x := iCells b7 _ _) ?_) | (refine c_perm (front1 _ _ _) ?_; refine c_drop (x := iCells b7 _ _) ?_) | (refine c_perm (front2 _ _ _ _) ?_; refine c_drop (x := iCells b7 _ _) ?_) | (refine c_perm (front3 _ _ _ _ _) ?_; refine c_drop (x := iCells b7 _ _) ?_) | (refine c_perm (front4 _ _ _ _ _ _) ?_; refine c_drop (x := iCells b7 _ _) ?_)
      refine c_join ((k + 1), (B), (d)) ?_ ?_ ?_ ?_
      · show ((k + 1) ≤ l.length) ∧ l.length - (k + 1) < l.length - k
        exact ⟨by omega, by omega⟩
      · exact ⟨rfl, (by rw [strip_step hu, if_neg h17, List.append_nil]; rfl), rfl, rfl, rfl, trivial⟩
      · show List.Perm _ ([iSl 33 4 tokF (B) (d) (Lay.strip defs (l.take (k + 1)))])
        rw [strip_step hu, if_neg h17, List.append_nil]
      · exact fun _ h => h
  · skip
    refine c_exit ?_
    refine c_here ?_
    refine c_seq ?_
    refine c_reg ?_
    refine l_q (by decide) (p_move rfl).q ?_
    refine l_q (by decide) (p_assign rfl).q ?_
    refine l_nil ?_
    refine c_ret ?_
    refine c_ret1 rfl rfl (fun w hs => ?_)
    have hkl : l.take k = l := List.take_of_length_le (by omega)
    rw [hkl] at hs
    have g := hs.give (e := 33) (size := 4) (f := tokF) (es := Lay.strip defs l) (by repeat (first | exact List.Mem.head _ | apply List.Mem.tail)) (by decide) len_tokF
    exact ⟨(_, _), by rw [hkl], g.1, g.2.1, hs.ext⟩

theorem strip2_ok (A : Option Addr) (c : Nat) (l : List Lay.T) (defs : Int) (hl : l.length < 1000000) (w : World) (hq : Sl 4 tokF A l w) :
    Calls Try.prog 19 #[.slice A l.length c, .int .i64 defs] w (Ret fun v w' => ∃ x : Option Addr × Nat, v = .slice x.1 (Lay.strip defs l).length x.2 ∧ Sl 4 tokF x.1 (Lay.strip defs l) w' ∧ Dep w.heap.size w'.heap.size (Sl 4 tokF x.1 (Lay.strip defs l)) ∧ Ext [] w w') := by
  refine calls_fx (l := [.slice A l.length c, .int .i64 defs]) Try.func19 rfl Try.ntmps19 (Nat.le_of_ble_eq_true rfl) ((St.start w).old hq (dep_sl (by decide) hq)) ?_
  refine c_seq ?_
  refine c_reg ?_
  refine l_q (by decide) (p_assign rfl).q ?_
  refine l_nil ?_
  refine c_seq ?_
  refine c_reg ?_
  refine l_q (by decide) (p_assign rfl).q ?_
  refine l_nil ?_
  refine c_seq ?_
  refine c_seq ?_
  refine c_reg ?_
  refine l_q (by decide) (p_assign (v := .int .i64 ((0 : Nat) : Int)) rfl).q ?_
  refine l_nil ?_
  refine c_block ?_
  refine c_sl0 33 4 tokF ?_
  refine c_loop (S := Nat × Option Addr × Nat) (fun zs => zs.1 ≤ l.length) (fun zs => l.length - zs.1) (fun zs => [(0, .slice A l.length c), (1, .int .i64 defs), (5, .slice zs.2.1 (Lay.strip defs (l.take zs.1)).length zs.2.2), (6, .int .i64 (zs.1 : Int))]) (fun zs => [iSl 33 4 tokF zs.2.1 zs.2.2 (Lay.strip defs (l.take zs.1))]) (fun zs => [Sl 4 tokF A l]) (0, none, 0) ?_ ?_ ?_ ?_ ?_
  · show (0) ≤ l.length
    exact Nat.zero_le _
  · exact ⟨rfl, rfl, rfl, rfl, trivial⟩
  · exact .refl _
  · simp
  rintro ⟨k, B, d⟩ hinv
  have hinv : k ≤ l.length := hinv
  have hk := hinv
  show Cont _ _ _ _ [(0, .slice A l.length c), (1, .int .i64 defs), (5, .slice B (Lay.strip defs (l.take k)).length d), (6, .int .i64 (k : Int))] ([iSl 33 4 tokF B d (Lay.strip defs (l.take k))]) [Sl 4 tokF A l]
  refine c_seq ?_
  refine c_seq ?_
  refine c_reg ?_
  refine l_q (by decide) (p_move rfl).q ?_
  refine l_q (by decide) (p_move rfl).q ?_
  refine l_q (by decide) (p_len_sl Try.underlying22 rfl).q ?_
  first | refine l_q (by decide) (p_lss rfl rfl rfl rfl).q ?_ | refine l_q (by decide) (p_lssi rfl rfl).q ?_
  refine l_nil ?_
  first | refine c_dec rfl (fun h10 => ?_) (fun h10 => ?_) | refine c_cond rfl (fun h10 => ?_) (fun h10 => ?_)
  · skip
    obtain ⟨u, hu⟩ := at_some (l := l) (n := k) (by omega)
    refine c_skip ?_
    refine c_seq ?_
    refine c_block ?_
    refine c_seq ?_
    refine c_reg ?_
    refine l_q (by decide) (p_move rfl).q ?_
    refine l_q (by decide) (p_move rfl).q ?_
    first | refine l_q (by decide) (r_index Try.underlying22 inf_33 rfl rfl rfl (by first | exact .fact (by repeat (first | exact List.Mem.head _ | apply List.Mem.tail)) | exact .own (by repeat (first | exact List.Mem.head _ | apply List.Mem.tail)) (by decide) (fun _ => rfl)) rfl (by omega)).q ?_ | refine l_q (by decide) (r_index Try.underlying22 inf_33 rfl rfl rfl (by first | exact .fact (by repeat (first | exact List.Mem.head _ | apply List.Mem.tail)) | exact .own (by repeat (first | exact List.Mem.head _ | apply List.Mem.tail)) (by decide) (fun _ => rfl)) rfl (by decide)).q ?_ | refine l_q (by decide) (p_indexo Try.underlying22 inf_33 rfl rfl rfl (by omega)).q ?_
    first | refine l_q (by decide) (p_faddr (i := 0) 0 Try.underlying33 rfl inf_3 (by decide) rfl rfl).q ?_ | refine l_q (by decide) (p_faddro (i := 0) 0 Try.underlying33 rfl inf_3 (by decide) rfl rfl).q ?_
    first | refine l_q (by decide) (r_loado Try.underlying3 rfl rfl (by repeat (first | exact List.Mem.head _ | apply List.Mem.tail)) (by rfl)).q ?_ | refine l_q (by decide) (r_load1 Try.underlying3 rfl rfl (by first | exact .fact (by repeat (first | exact List.Mem.head _ | apply List.Mem.tail)) | exact .own (by repeat (first | exact List.Mem.head _ | apply List.Mem.tail)) (by decide) (fun _ => rfl)) (by first | assumption | rfl) (by rfl)).q ?_ | refine l_q (by decide) (r_loadf Try.underlying3 rfl rfl (by first | exact .fact (by repeat (first | exact List.Mem.head _ | apply List.Mem.tail)) | exact .own (by repeat (first | exact List.Mem.head _ | apply List.Mem.tail)) (by decide) (fun _ => rfl)) (by assumption) (by rfl)).q ?_
    refine l_q (by decide) (p_move rfl).q ?_
    first | refine l_q (by decide) (p_lss rfl rfl rfl rfl).q ?_ | refine l_q (by decide) (p_lssi rfl rfl).q ?_
    refine l_nil ?_
    first | refine c_dec rfl (fun h19 => ?_) (fun h19 => ?_) | refine c_cond rfl (fun h19 => ?_) (fun h19 => ?_)
    · skip
      refine c_reg ?_
      refine l_q (by decide) (p_move rfl).q ?_
      refine l_q (by decide) (p_move rfl).q ?_
      refine l_q (by decide) (p_move rfl).q ?_
      first | refine l_q (by decide) (r_index Try.underlying22 inf_33 rfl rfl rfl (by first | exact .fact (by repeat (first | exact List.Mem.head _ | apply List.Mem.tail)) | exact .own (by repeat (first | exact List.Mem.head _ | apply List.Mem.tail)) (by decide) (fun _ => rfl)) rfl (by omega)).q ?_ | refine l_q (by decide) (r_index Try.underlying22 inf_33 rfl rfl rfl (by first | exact .fact (by repeat (first | exact List.Mem.head _ | apply List.Mem.tail)) | exact .own (by repeat (first | exact List.Mem.head _ | apply List.Mem.tail)) (by decide) (fun _ => rfl)) rfl (by decide)).q ?_ | refine l_q (by decide) (p_indexo Try.underlying22 inf_33 rfl rfl rfl (by omega)).q ?_
      first | refine l_q (by decide) (r_loada Try.underlying33 rfl inf_33 rfl (by first | exact .fact (by repeat (first | exact List.Mem.head _ | apply List.Mem.tail)) | exact .own (by repeat (first | exact List.Mem.head _ | apply List.Mem.tail)) (by decide) (fun _ => rfl)) (by assumption)).q ?_ | refine l_q (by decide) (r_loadow Try.underlying33 rfl inf_33 rfl (by repeat (first | exact List.Mem.head _ | apply List.Mem.tail)) (by rfl)).q ?_ | refine l_q (by decide) (r_loadoa Try.underlying33 rfl inf_33 rfl (by repeat (first | exact List.Mem.head _ | apply List.Mem.tail)) (by rfl) (fun j u h => h)).q ?_
      refine l_buildSlice (by decide) Try.underlying22 inf_33 (by decide) (by decide) rfl rfl rfl rfl (fun b25 => ?_)
      first | (refine l_append1 (u) (by decide) Try.underlying22 inf_33 rfl (by decide) rfl rfl rfl rfl rfl rfl (by have := strip_len defs l k; omega) (by have := strip_len defs l k; omega) (fun A26 c26 hA26 => ?_)) | (refine l_perm (.cons _ (front1 _ _ _)) ?_; refine l_append1 (u) (by decide) Try.underlying22 inf_33 rfl (by decide) rfl rfl rfl rfl rfl rfl (by have := strip_len defs l k; omega) (by have := strip_len defs l k; omega) (fun A26 c26 hA26 => ?_)) | (refine l_perm (.cons _ (front2 _ _ _ _)) ?_; refine l_append1 (u) (by decide) Try.underlying22 inf_33 rfl (by decide) rfl rfl rfl rfl rfl rfl (by have := strip_len defs l k; omega) (by have := strip_len defs l k; omega) (fun A26 c26 hA26 => ?_))
      refine l_q (by decide) (p_assign rfl).q ?_
      refine l_nil ?_
      refine c_reg ?_
      refine l_q (by decide) (p_move rfl).q ?_
      first | refine l_q (by decide) (p_add (j := 1) rfl rfl rfl rfl (by show _ ≤ (9223372036854775807 : Nat); omega)).q ?_ | refine l_q (by decide) (p_addi rfl rfl (by show (-9223372036854775808 : Int) ≤ _; omega) (by show _ ≤ ((9223372036854775807 : Nat) : Int); omega)).q ?_
      refine l_q (by decide) (p_assign rfl).q ?_
      refine l_nil ?_
      refine c_join ((k + 1), (A26), (c26)) ?_ ?_ ?_ ?_
      · show ((k + 1) ≤ l.length) ∧ l.length - (k + 1) < l.length - k
        exact ⟨by omega, by omega⟩
      · exact ⟨rfl, rfl, (by rw [strip_step hu, if_pos h19]; rfl), rfl, trivial⟩
      · show List.Perm _ ([iSl 33 4 tokF (A26) (c26) (Lay.strip defs (l.take (k + 1)))])
        rw [strip_step hu, if_pos h19]
      · exact fun _ h => h
    · skip
      refine c_skip ?_
      refine c_reg ?_
      refine l_q (by decide) (p_move rfl).q ?_
      first | refine l_q (by decide) (p_add (j := 1) rfl rfl rfl rfl (by show _ ≤ (9223372036854775807 : Nat); omega)).q ?_ | refine l_q (by decide) (p_addi rfl rfl (by show (-9223372036854775808 : Int) ≤ _; omega) (by show _ ≤ ((9223372036854775807 : Nat) : Int); omega)).q ?_
      refine l_q (by decide) (p_assign rfl).q ?_
      refine l_nil ?_
      refine c_join ((k + 1), (B), (d)) ?_ ?_ ?_ ?_
      · show ((k + 1) ≤ l.length) ∧ l.length - (k + 1) < l.length - k
        exact ⟨by omega, by omega⟩
      · exact ⟨rfl, rfl, (by rw [strip_step hu, if_neg h19, List.append_nil]; rfl), rfl, trivial⟩
      · show List.Perm _ ([iSl 33 4 tokF (B) (d) (Lay.strip defs (l.take (k + 1)))])
        rw [strip_step hu, if_neg h19, List.append_nil]
      · exact fun _ h => h
  · skip
    refine c_exit ?_
    refine c_here ?_
    refine c_seq ?_
    refine c_reg ?_
    refine l_q (by decide) (p_move rfl).q ?_
    refine l_q (by decide) (p_assign rfl).q ?_
    refine l_nil ?_
    refine c_ret ?_
    refine c_ret1 rfl rfl (fun w hs => ?_)
    have hkl : l.take k = l := List.take_of_length_le (by omega)
    rw [hkl] at hs
    have g := hs.give (e := 33) (size := 4) (f := tokF) (es := Lay.strip defs l) (by repeat (first | exact List.Mem.head _ | apply List.Mem.tail)) (by decide) len_tokF
    exact ⟨(_, _), by rw [hkl], g.1, g.2.1, hs.ext⟩
end Go.Proofs.Ytejhgbnpmelgcaa
