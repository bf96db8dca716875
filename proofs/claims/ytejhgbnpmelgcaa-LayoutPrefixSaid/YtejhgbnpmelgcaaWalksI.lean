/- The walks of the off-side rule, eighth part; conditions: none. -/
import Derived.Test.YtejhgbnpmelgcaaWalksG
namespace Go.Proofs.Ytejhgbnpmelgcaa
open Go Go.Fx Go.Proofs

theorem moved_cells (a n : Nat) (u : Lay.T) (h : u.at_ = n) : tokF (Lay.moved a u) = [.int .i64 u.kind, .int .i64 ((if a ≤ n then n + 1 else n : Nat) : Int), str u.text, .int .i64 u.look] := by rw [Lay.moved_tok a u n h]; rfl
theorem lined_eq (s : List UInt8) (a : Nat) : s.take a ++ [10] ++ s.drop a = Lay.lined s a := by unfold Lay.lined; simp
theorem lined_len (s : List UInt8) (a : Nat) (h : a ≤ s.length) : (Lay.lined s a).length = s.length + 1 := by unfold Lay.lined; simp; omega
theorem kinds_take {l : List Lay.T} {k : Nat} {u : Lay.T} (h : l[k]? = some u) : Lay.kinds (l.take (k + 1)) = Lay.kinds (l.take k) ++ [u.kind] := by rw [take_at h]; simp [Lay.kinds]
theorem map_take {a : Nat} {l : List Lay.T} {k : Nat} {u : Lay.T} (h : l[k]? = some u) : (l.take (k + 1)).map (Lay.moved a) = (l.take k).map (Lay.moved a) ++ [Lay.moved a u] := by rw [take_at h]; simp
theorem len_kinds (l : List Lay.T) : (Lay.kinds l).length = l.length := by simp [Lay.kinds]
theorem kinds_emp (A B : Option Addr) (c d : Nat) (l : List Lay.T) (s : List UInt8) (a : Nat) (defs : Int) (ha : a ≤ s.length) (hs : Lay.start s a = a) (hl : l.length ≤ 60) (w : World) (hq : Sl 4 tokF A (Lay.app (l.map (Lay.moved a)) (Lay.lined s a) defs) w) (hp : Sl 1 intF B (Lay.kinds (Lay.app l s defs)) w) :
    Calls Try.prog 21 #[.slice A (Lay.app (l.map (Lay.moved a)) (Lay.lined s a) defs).length c, .slice B (Lay.kinds (Lay.app l s defs)).length d] w (Ret fun v w' => v = .bool true ∧ Ext [] w w') :=
  kinds_true A B c d _ _ (Lay.app_lined ha hs defs l) (by have := Lay.app_len (l.map (Lay.moved a)) (Lay.lined s a) defs; rw [List.length_map] at this; omega) w hq hp
theorem moved_at {l : List Lay.T} {s : List UInt8} {a : Nat} (ha : a ≤ s.length) (h : ∀ t, t ∈ l → 0 ≤ t.at_ ∧ t.at_ ≤ s.length) : ∀ t, t ∈ l.map (Lay.moved a) → 0 ≤ t.at_ ∧ t.at_ ≤ (Lay.lined s a).length := fun t ht => by
  obtain ⟨x, hx, rfl⟩ := List.mem_map.1 ht
  have := h x hx
  rw [lined_len s a ha]
  unfold Lay.moved Lay.up
  simp only
  split <;> omega
theorem empty_law (A : Option Addr) (c : Nat) (l : List Lay.T) (s : List UInt8) (defs : Int) (b : UInt8) (hl : l.length ≤ 140737488351232) (hsl : s.length ≤ 140737488351232) (hk : ∀ t, t ∈ l → -9223372036854775808 ≤ t.kind ∧ t.kind ≤ 9223372036854775807) (w : World) (hq : Sl 4 tokF A l w) :
    Calls Try.prog 8 #[.agg #[.slice A l.length c, str s, .int .i64 defs], .int .u8 (b.toNat : Int)] w (Ret fun v w' => v = .bool true ∧ Ext [] w w') := by
  refine calls_fx (l := [.agg #[.slice A l.length c, str s, .int .i64 defs], .int .u8 (b.toNat : Int)]) Try.func8 rfl Try.ntmps8 (Nat.le_of_ble_eq_true rfl) ((St.start w).old hq (dep_sl (by decide) hq)) ?_
  refine c_seq ?_
  refine c_reg ?_
  refine l_box (by decide) rfl _ rfl (fun b2 => ?_)
  refine l_q (by decide) (p_assign rfl).q ?_
  refine l_nil ?_
  refine c_seq ?_
  refine c_seq ?_
  refine c_reg ?_
  refine l_q (by decide) (q_call call_10 rfl (fun w hs => awake_ok w)) ?_
  refine l_q (by decide) (p_not rfl).q ?_
  refine l_nil ?_
  refine c_false rfl ?_
  refine c_skip ?_
  refine c_seq ?_
  refine c_seq ?_
  refine c_meetn (S := Unit) (fun zs => True) (fun zs => [(1, .int .u8 (b.toNat : Int)), (2, .pointer (some ⟨b2, 0, none⟩)), (28, .bool (decide (¬ Lay.fairB l s defs = true ∨ l.length = 0)))]) (fun zs => [iCells b2 24 [.slice A l.length c, str s, .int .i64 defs]]) (fun zs => [Sl 4 tokF A l]) ?_ ?_
  · skip
    refine c_reg ?_
    first | refine l_q (by decide) (p_faddr (i := 0) 0 Try.underlying24 rfl inf_22 (by decide) rfl rfl).q ?_ | refine l_q (by decide) (p_faddro (i := 0) 0 Try.underlying24 rfl inf_22 (by decide) rfl rfl).q ?_
    first | refine l_q (by decide) (r_loado Try.underlying22 rfl rfl (by repeat (first | exact List.Mem.head _ | apply List.Mem.tail)) (by rfl)).q ?_ | refine l_q (by decide) (r_load1 Try.underlying22 rfl rfl (by first | exact .fact (by repeat (first | exact List.Mem.head _ | apply List.Mem.tail)) | exact .own (by repeat (first | exact List.Mem.head _ | apply List.Mem.tail)) (by decide) (fun _ => rfl)) (by first | assumption | rfl) (by rfl)).q ?_ | refine l_q (by decide) (r_loadf Try.underlying22 rfl rfl (by first | exact .fact (by repeat (first | exact List.Mem.head _ | apply List.Mem.tail)) | exact .own (by repeat (first | exact List.Mem.head _ | apply List.Mem.tail)) (by decide) (fun _ => rfl)) (by assumption) (by rfl)).q ?_
    first | refine l_q (by decide) (p_faddr (i := 1) 1 Try.underlying24 rfl inf_9 (by decide) rfl rfl).q ?_ | refine l_q (by decide) (p_faddro (i := 1) 1 Try.underlying24 rfl inf_9 (by decide) rfl rfl).q ?_
    first | refine l_q (by decide) (r_loado Try.underlying9 rfl rfl (by repeat (first | exact List.Mem.head _ | apply List.Mem.tail)) (by rfl)).q ?_ | refine l_q (by decide) (r_load1 Try.underlying9 rfl rfl (by first | exact .fact (by repeat (first | exact List.Mem.head _ | apply List.Mem.tail)) | exact .own (by repeat (first | exact List.Mem.head _ | apply List.Mem.tail)) (by decide) (fun _ => rfl)) (by first | assumption | rfl) (by rfl)).q ?_ | refine l_q (by decide) (r_loadf Try.underlying9 rfl rfl (by first | exact .fact (by repeat (first | exact List.Mem.head _ | apply List.Mem.tail)) | exact .own (by repeat (first | exact List.Mem.head _ | apply List.Mem.tail)) (by decide) (fun _ => rfl)) (by assumption) (by rfl)).q ?_
    first | refine l_q (by decide) (p_faddr (i := 2) 2 Try.underlying24 rfl inf_3 (by decide) rfl rfl).q ?_ | refine l_q (by decide) (p_faddro (i := 2) 2 Try.underlying24 rfl inf_3 (by decide) rfl rfl).q ?_
    first | refine l_q (by decide) (r_loado Try.underlying3 rfl rfl (by repeat (first | exact List.Mem.head _ | apply List.Mem.tail)) (by rfl)).q ?_ | refine l_q (by decide) (r_load1 Try.underlying3 rfl rfl (by first | exact .fact (by repeat (first | exact List.Mem.head _ | apply List.Mem.tail)) | exact .own (by repeat (first | exact List.Mem.head _ | apply List.Mem.tail)) (by decide) (fun _ => rfl)) (by first | assumption | rfl) (by rfl)).q ?_ | refine l_q (by decide) (r_loadf Try.underlying3 rfl rfl (by first | exact .fact (by repeat (first | exact List.Mem.head _ | apply List.Mem.tail)) | exact .own (by repeat (first | exact List.Mem.head _ | apply List.Mem.tail)) (by decide) (fun _ => rfl)) (by assumption) (by rfl)).q ?_
    refine l_q (by decide) (q_call call_11 rfl (fun w hs => fair_ok A c l s defs hl hsl w (hs.facts _ (by repeat (first | exact List.Mem.head _ | apply List.Mem.tail))).1)) ?_
    first | refine l_q (by decide) (p_notd rfl).q ?_ | refine l_q (by decide) (p_not rfl).q ?_
    refine l_q (by decide) (p_move rfl).q ?_
    first | refine l_splitd (t := 23) rfl (fun h23 => ?_) (fun h23 => ?_) | refine l_splitb (t := 23) rfl (fun h23 => ?_) (fun h23 => ?_)
    · skip
      refine l_off (j := 8) rfl rfl (by first | (simp; done) | (simp [undef]; done)) (by decide) ?_
      refine l_off (j := 8) rfl rfl (by first | (simp; done) | (simp [undef]; done)) (by decide) ?_
      refine l_off (j := 8) rfl rfl (by first | (simp; done) | (simp [undef]; done)) (by decide) ?_
      refine l_off (j := 8) rfl rfl (by first | (simp; done) | (simp [undef]; done)) (by decide) ?_
      refine l_q (by decide) (p_pick rfl rfl).q ?_
      refine l_nil ?_
      refine c_join (()) ?inv ?sub ?perm ?facts
      case sub => exact ⟨rfl, rfl, (boolp (.inl (by simpa using h23))), trivial⟩
      case perm =>
        exact .refl _
      case facts => exact fun _ h => h
      case inv =>
        trivial
    · skip
      first | refine l_g (j := 8) rfl rfl (by decide) (p_faddr (i := 0) 0 Try.underlying24 rfl inf_22 (by decide) rfl rfl).q ?_ | refine l_g (j := 8) rfl rfl (by decide) (p_faddro (i := 0) 0 Try.underlying24 rfl inf_22 (by decide) rfl rfl).q ?_
      first | refine l_g (j := 8) rfl rfl (by decide) (r_loado Try.underlying22 rfl rfl (by repeat (first | exact List.Mem.head _ | apply List.Mem.tail)) (by rfl)).q ?_ | refine l_g (j := 8) rfl rfl (by decide) (r_load1 Try.underlying22 rfl rfl (by first | exact .fact (by repeat (first | exact List.Mem.head _ | apply List.Mem.tail)) | exact .own (by repeat (first | exact List.Mem.head _ | apply List.Mem.tail)) (by decide) (fun _ => rfl)) (by first | assumption | rfl) (by rfl)).q ?_ | refine l_g (j := 8) rfl rfl (by decide) (r_loadf Try.underlying22 rfl rfl (by first | exact .fact (by repeat (first | exact List.Mem.head _ | apply List.Mem.tail)) | exact .own (by repeat (first | exact List.Mem.head _ | apply List.Mem.tail)) (by decide) (fun _ => rfl)) (by assumption) (by rfl)).q ?_
      refine l_g (j := 8) rfl rfl (by decide) (p_len_sl Try.underlying22 rfl).q ?_
      first | refine l_g (j := 8) rfl rfl (by decide) (p_eql (j := 0) rfl rfl rfl rfl).q ?_ | refine l_g (j := 8) rfl rfl (by decide) (p_eqli rfl rfl).q ?_
      refine l_q (by decide) (p_pick rfl rfl).q ?_
      refine l_nil ?_
      refine c_join (()) ?inv ?sub ?perm ?facts
      case sub => exact ⟨rfl, rfl, (boold (by rw [show Lay.fairB l s defs = true by simpa using h23]; simp)), trivial⟩
      case perm =>
        exact .refl _
      case facts => exact fun _ h => h
      case inv =>
        trivial
  rintro uu hmeet
  show Cont _ _ _ _ [(1, .int .u8 (b.toNat : Int)), (2, .pointer (some ⟨b2, 0, none⟩)), (28, .bool (decide (¬ Lay.fairB l s defs = true ∨ l.length = 0)))] ([iCells b2 24 [.slice A l.length c, str s, .int .i64 defs]]) [Sl 4 tokF A l]
  first | refine c_dec rfl (fun h28 => ?_) (fun h28 => ?_) | refine c_cond rfl (fun h28 => ?_) (fun h28 => ?_)
  · skip
    refine c_seq ?_
    refine c_reg ?_
    refine l_q (by decide) (p_assign rfl).q ?_
    refine l_nil ?_
    refine c_ret ?_
    refine c_ret1 rfl rfl (fun w hs => ?_)
    exact ⟨rfl, hs.ext⟩
  · skip
    have hf : Lay.Fair l s defs := Lay.fairB_spec (Classical.byContradiction fun h => h28 (.inl h))
    have hd0 := hf.d0
    have hd1 := hf.d1
    have hll := hf.len
    have hpos : 0 < l.length := Nat.pos_of_ne_zero fun h => h28 (.inr h)
    have hb8 := UInt8.toNat_lt b
    have hmod := Nat.mod_lt b.toNat hpos
    obtain ⟨t0, ht0⟩ := at_some (l := l) (n := b.toNat % l.length) hmod
    have hta := hf.at_ t0 (List.mem_of_getElem? ht0)
    obtain ⟨n0, hn0⟩ := Int.eq_ofNat_of_zero_le hta.1
    have hst := Lay.start_le s n0
    refine c_skip ?_
    refine c_seq ?_
    refine c_draw mixed (by decide +kernel) ?_
    first | refine q_q (by decide) (p_faddr (i := 1) 1 Try.underlying24 rfl inf_9 (by decide) rfl rfl).q ?_ | refine q_q (by decide) (p_faddro (i := 1) 1 Try.underlying24 rfl inf_9 (by decide) rfl rfl).q ?_
    first | refine q_q (by decide) (r_loado Try.underlying9 rfl rfl (by repeat (first | exact List.Mem.head _ | apply List.Mem.tail)) (by rfl)).q ?_ | refine q_q (by decide) (r_load1 Try.underlying9 rfl rfl (by first | exact .fact (by repeat (first | exact List.Mem.head _ | apply List.Mem.tail)) | exact .own (by repeat (first | exact List.Mem.head _ | apply List.Mem.tail)) (by decide) (fun _ => rfl)) (by first | assumption | rfl) (by rfl)).q ?_ | refine q_q (by decide) (r_loadf Try.underlying9 rfl rfl (by first | exact .fact (by repeat (first | exact List.Mem.head _ | apply List.Mem.tail)) | exact .own (by repeat (first | exact List.Mem.head _ | apply List.Mem.tail)) (by decide) (fun _ => rfl)) (by assumption) (by rfl)).q ?_
    first | refine q_q (by decide) (p_faddr (i := 0) 0 Try.underlying24 rfl inf_22 (by decide) rfl rfl).q ?_ | refine q_q (by decide) (p_faddro (i := 0) 0 Try.underlying24 rfl inf_22 (by decide) rfl rfl).q ?_
    first | refine q_q (by decide) (r_loado Try.underlying22 rfl rfl (by repeat (first | exact List.Mem.head _ | apply List.Mem.tail)) (by rfl)).q ?_ | refine q_q (by decide) (r_load1 Try.underlying22 rfl rfl (by first | exact .fact (by repeat (first | exact List.Mem.head _ | apply List.Mem.tail)) | exact .own (by repeat (first | exact List.Mem.head _ | apply List.Mem.tail)) (by decide) (fun _ => rfl)) (by first | assumption | rfl) (by rfl)).q ?_ | refine q_q (by decide) (r_loadf Try.underlying22 rfl rfl (by first | exact .fact (by repeat (first | exact List.Mem.head _ | apply List.Mem.tail)) | exact .own (by repeat (first | exact List.Mem.head _ | apply List.Mem.tail)) (by decide) (fun _ => rfl)) (by assumption) (by rfl)).q ?_
    refine q_q (by decide) (p_move rfl).q ?_
    refine q_q (by decide) (p_convn Try.underlying5 Try.underlying3 rfl rfl (by show _ ≤ (9223372036854775807 : Nat); omega)).q ?_
    first | refine q_q (by decide) (p_faddr (i := 0) 0 Try.underlying24 rfl inf_22 (by decide) rfl rfl).q ?_ | refine q_q (by decide) (p_faddro (i := 0) 0 Try.underlying24 rfl inf_22 (by decide) rfl rfl).q ?_
    first | refine q_q (by decide) (r_loado Try.underlying22 rfl rfl (by repeat (first | exact List.Mem.head _ | apply List.Mem.tail)) (by rfl)).q ?_ | refine q_q (by decide) (r_load1 Try.underlying22 rfl rfl (by first | exact .fact (by repeat (first | exact List.Mem.head _ | apply List.Mem.tail)) | exact .own (by repeat (first | exact List.Mem.head _ | apply List.Mem.tail)) (by decide) (fun _ => rfl)) (by first | assumption | rfl) (by rfl)).q ?_ | refine q_q (by decide) (r_loadf Try.underlying22 rfl rfl (by first | exact .fact (by repeat (first | exact List.Mem.head _ | apply List.Mem.tail)) | exact .own (by repeat (first | exact List.Mem.head _ | apply List.Mem.tail)) (by decide) (fun _ => rfl)) (by assumption) (by rfl)).q ?_
    refine q_q (by decide) (p_len_sl Try.underlying22 rfl).q ?_
    refine q_q (by decide) (p_rem rfl rfl rfl rfl (by omega)).q ?_
    first | refine q_q (by decide) (r_index Try.underlying22 inf_33 rfl rfl rfl (by first | exact .fact (by repeat (first | exact List.Mem.head _ | apply List.Mem.tail)) | exact .own (by repeat (first | exact List.Mem.head _ | apply List.Mem.tail)) (by decide) (fun _ => rfl)) rfl (by omega)).q ?_ | refine q_q (by decide) (r_index Try.underlying22 inf_33 rfl rfl rfl (by first | exact .fact (by repeat (first | exact List.Mem.head _ | apply List.Mem.tail)) | exact .own (by repeat (first | exact List.Mem.head _ | apply List.Mem.tail)) (by decide) (fun _ => rfl)) rfl (by decide)).q ?_ | refine q_q (by decide) (p_indexo Try.underlying22 inf_33 rfl rfl rfl (by omega)).q ?_
    first | refine q_q (by decide) (p_faddr (i := 1) 1 Try.underlying33 rfl inf_3 (by decide) rfl rfl).q ?_ | refine q_q (by decide) (p_faddro (i := 1) 1 Try.underlying33 rfl inf_3 (by decide) rfl rfl).q ?_
    first | refine q_q (by decide) (((r_loado Try.underlying3 rfl rfl (by repeat (first | exact List.Mem.head _ | apply List.Mem.tail)) (by rfl))).to (u := .int .i64 (n0 : Int)) (by rw [hn0])).q ?_ | refine q_q (by decide) (((r_load1 Try.underlying3 rfl rfl (by first | exact .fact (by repeat (first | exact List.Mem.head _ | apply List.Mem.tail)) | exact .own (by repeat (first | exact List.Mem.head _ | apply List.Mem.tail)) (by decide) (fun _ => rfl)) (by first | assumption | rfl) (by rfl))).to (u := .int .i64 (n0 : Int)) (by rw [hn0])).q ?_ | refine q_q (by decide) (((r_loadf Try.underlying3 rfl rfl (by first | exact .fact (by repeat (first | exact List.Mem.head _ | apply List.Mem.tail)) | exact .own (by repeat (first | exact List.Mem.head _ | apply List.Mem.tail)) (by decide) (fun _ => rfl)) (by assumption) (by rfl))).to (u := .int .i64 (n0 : Int)) (by rw [hn0])).q ?_
    refine q_q (by decide) (q_call call_20 rfl (fun w hs => start_ok s n0 (by omega) (by have := hf.slen; omega) w)) ?_
    refine q_q (by decide) (p_assign rfl).q ?_
    refine q_nil ?_
    refine c_seq ?_
    refine c_reg ?_
    refine l_q (by decide) (p_assign rfl).q ?_
    refine l_nil ?_
    refine c_seq ?_
    refine c_seq ?_
    refine c_reg ?_
    refine l_q (by decide) (p_assign (v := .int .i64 ((0 : Nat) : Int)) rfl).q ?_
    refine l_nil ?_
    refine c_block ?_
    refine c_sl0 33 4 tokF ?_
    refine c_loop (S := Nat × Option Addr × Nat) (fun zs => zs.1 ≤ l.length) (fun zs => l.length - zs.1) (fun zs => [(2, .pointer (some ⟨b2, 0, none⟩)), (5, .int .i64 (Lay.start s n0 : Int)), (6, .slice zs.2.1 ((l.take zs.1).map (Lay.moved (Lay.start s n0))).length zs.2.2), (7, .int .i64 (zs.1 : Int))]) (fun zs => [iSl 33 4 tokF zs.2.1 zs.2.2 ((l.take zs.1).map (Lay.moved (Lay.start s n0))), iCells b2 24 [.slice A l.length c, str s, .int .i64 defs]]) (fun zs => [Sl 4 tokF A l]) (0, none, 0) ?_ ?_ ?_ ?_ ?_
    · show (0) ≤ l.length
      exact Nat.zero_le _
    · exact ⟨rfl, rfl, rfl, rfl, trivial⟩
    · exact .refl _
    · simp
    rintro ⟨k, A3, c3⟩ hinv
    have hinv : k ≤ l.length := hinv
    have hkl := hinv
    show Cont _ _ _ _ [(2, .pointer (some ⟨b2, 0, none⟩)), (5, .int .i64 (Lay.start s n0 : Int)), (6, .slice A3 ((l.take k).map (Lay.moved (Lay.start s n0))).length c3), (7, .int .i64 (k : Int))] ([iSl 33 4 tokF A3 c3 ((l.take k).map (Lay.moved (Lay.start s n0))), iCells b2 24 [.slice A l.length c, str s, .int .i64 defs]]) [Sl 4 tokF A l]
    refine c_seq ?_
    refine c_seq ?_
    refine c_reg ?_
    refine l_q (by decide) (p_move rfl).q ?_
    first | refine l_q (by decide) (p_faddr (i := 0) 0 Try.underlying24 rfl inf_22 (by decide) rfl rfl).q ?_ | refine l_q (by decide) (p_faddro (i := 0) 0 Try.underlying24 rfl inf_22 (by decide) rfl rfl).q ?_
    first | refine l_q (by decide) (r_loado Try.underlying22 rfl rfl (by repeat (first | exact List.Mem.head _ | apply List.Mem.tail)) (by rfl)).q ?_ | refine l_q (by decide) (r_load1 Try.underlying22 rfl rfl (by first | exact .fact (by repeat (first | exact List.Mem.head _ | apply List.Mem.tail)) | exact .own (by repeat (first | exact List.Mem.head _ | apply List.Mem.tail)) (by decide) (fun _ => rfl)) (by first | assumption | rfl) (by rfl)).q ?_ | refine l_q (by decide) (r_loadf Try.underlying22 rfl rfl (by first | exact .fact (by repeat (first | exact List.Mem.head _ | apply List.Mem.tail)) | exact .own (by repeat (first | exact List.Mem.head _ | apply List.Mem.tail)) (by decide) (fun _ => rfl)) (by assumption) (by rfl)).q ?_
    refine l_q (by decide) (p_len_sl Try.underlying22 rfl).q ?_
    first | refine l_q (by decide) (p_lss rfl rfl rfl rfl).q ?_ | refine l_q (by decide) (p_lssi rfl rfl).q ?_
    refine l_nil ?_
    first | refine c_dec rfl (fun h47 => ?_) (fun h47 => ?_) | refine c_cond rfl (fun h47 => ?_) (fun h47 => ?_)
    · skip
      obtain ⟨u, hu⟩ := at_some (l := l) (n := k) (by omega)
      have hua := hf.at_ u (List.mem_of_getElem? hu)
      obtain ⟨n, hn⟩ := Int.eq_ofNat_of_zero_le hua.1
      refine c_skip ?_
      refine c_seq ?_
      refine c_block ?_
      refine c_seq ?_
      refine c_reg ?_
      first | refine l_q (by decide) (p_faddr (i := 0) 0 Try.underlying24 rfl inf_22 (by decide) rfl rfl).q ?_ | refine l_q (by decide) (p_faddro (i := 0) 0 Try.underlying24 rfl inf_22 (by decide) rfl rfl).q ?_
      first | refine l_q (by decide) (r_loado Try.underlying22 rfl rfl (by repeat (first | exact List.Mem.head _ | apply List.Mem.tail)) (by rfl)).q ?_ | refine l_q (by decide) (r_load1 Try.underlying22 rfl rfl (by first | exact .fact (by repeat (first | exact List.Mem.head _ | apply List.Mem.tail)) | exact .own (by repeat (first | exact List.Mem.head _ | apply List.Mem.tail)) (by decide) (fun _ => rfl)) (by first | assumption | rfl) (by rfl)).q ?_ | refine l_q (by decide) (r_loadf Try.underlying22 rfl rfl (by first | exact .fact (by repeat (first | exact List.Mem.head _ | apply List.Mem.tail)) | exact .own (by repeat (first | exact List.Mem.head _ | apply List.Mem.tail)) (by decide) (fun _ => rfl)) (by assumption) (by rfl)).q ?_
      refine l_q (by decide) (p_move rfl).q ?_
      first | refine l_q (by decide) (r_index Try.underlying22 inf_33 rfl rfl rfl (by first | exact .fact (by repeat (first | exact List.Mem.head _ | apply List.Mem.tail)) | exact .own (by repeat (first | exact List.Mem.head _ | apply List.Mem.tail)) (by decide) (fun _ => rfl)) rfl (by omega)).q ?_ | refine l_q (by decide) (r_index Try.underlying22 inf_33 rfl rfl rfl (by first | exact .fact (by repeat (first | exact List.Mem.head _ | apply List.Mem.tail)) | exact .own (by repeat (first | exact List.Mem.head _ | apply List.Mem.tail)) (by decide) (fun _ => rfl)) rfl (by decide)).q ?_ | refine l_q (by decide) (p_indexo Try.underlying22 inf_33 rfl rfl rfl (by omega)).q ?_
      first | refine l_q (by decide) (r_loada Try.underlying33 rfl inf_33 rfl (by first | exact .fact (by repeat (first | exact List.Mem.head _ | apply List.Mem.tail)) | exact .own (by repeat (first | exact List.Mem.head _ | apply List.Mem.tail)) (by decide) (fun _ => rfl)) (by assumption)).q ?_ | refine l_q (by decide) (r_loadow Try.underlying33 rfl inf_33 rfl (by repeat (first | exact List.Mem.head _ | apply List.Mem.tail)) (by rfl)).q ?_ | refine l_q (by decide) (r_loadoa Try.underlying33 rfl inf_33 rfl (by repeat (first | exact List.Mem.head _ | apply List.Mem.tail)) (by rfl) (fun j u h => h)).q ?_
      refine l_alloc (by decide) inf_33 _ rfl (fun b8 => ?_)
      first | (refine l_storew inf_33 rfl rfl rfl rfl rfl ?_) | (refine l_perm (front1 _ _ _) ?_; refine l_storew inf_33 rfl rfl rfl rfl rfl ?_) | (refine l_perm (front2 _ _ _ _) ?_; refine l_storew inf_33 rfl rfl rfl rfl rfl ?_) | (refine l_perm (front3 _ _ _ _ _) ?_; refine l_storew inf_33 rfl rfl rfl rfl rfl ?_) | (refine l_perm (front4 _ _ _ _ _ _) ?_; refine l_storew inf_33 rfl rfl rfl rfl rfl ?_) | (refine l_storea inf_33 rfl rfl rfl rfl (by decide) ?_) | (refine l_perm (front1 _ _ _) ?_; refine l_storea inf_33 rfl rfl rfl rfl (by decide) ?_) | (refine l_perm (front2 _ _ _ _) ?_; refine l_storea inf_33 rfl rfl rfl rfl (by decide) ?_)
      refine l_nil ?_
      refine c_seq ?_
      refine c_seq ?_
      refine c_reg ?_
      first | refine l_q (by decide) (p_faddr (i := 1) 1 Try.underlying33 rfl inf_3 (by decide) rfl rfl).q ?_ | refine l_q (by decide) (p_faddro (i := 1) 1 Try.underlying33 rfl inf_3 (by decide) rfl rfl).q ?_
      first | refine l_q (by decide) (((r_loado Try.underlying3 rfl rfl (by repeat (first | exact List.Mem.head _ | apply List.Mem.tail)) (by rfl))).to (u := .int .i64 (n : Int)) (by rw [hn])).q ?_ | refine l_q (by decide) (((r_load1 Try.underlying3 rfl rfl (by first | exact .fact (by repeat (first | exact List.Mem.head _ | apply List.Mem.tail)) | exact .own (by repeat (first | exact List.Mem.head _ | apply List.Mem.tail)) (by decide) (fun _ => rfl)) (by first | assumption | rfl) (by rfl))).to (u := .int .i64 (n : Int)) (by rw [hn])).q ?_ | refine l_q (by decide) (((r_loadf Try.underlying3 rfl rfl (by first | exact .fact (by repeat (first | exact List.Mem.head _ | apply List.Mem.tail)) | exact .own (by repeat (first | exact List.Mem.head _ | apply List.Mem.tail)) (by decide) (fun _ => rfl)) (by assumption) (by rfl))).to (u := .int .i64 (n : Int)) (by rw [hn])).q ?_
      refine l_q (by decide) (p_move rfl).q ?_
      first | refine l_q (by decide) (p_geq rfl rfl rfl rfl).q ?_ | refine l_q (by decide) (p_geqi rfl rfl).q ?_
      refine l_nil ?_
      refine c_meetn (S := Unit) (fun zs => True) (fun zs => [(2, .pointer (some ⟨b2, 0, none⟩)), (5, .int .i64 (Lay.start s n0 : Int)), (6, .slice A3 ((l.take k).map (Lay.moved (Lay.start s n0))).length c3), (7, .int .i64 (k : Int)), (8, .pointer (some ⟨b8, 0, none⟩))]) (fun zs => [iCells b8 33 (tokF (Lay.moved (Lay.start s n0) u)), iSl 33 4 tokF A3 c3 ((l.take k).map (Lay.moved (Lay.start s n0))), iCells b2 24 [.slice A l.length c, str s, .int .i64 defs]]) (fun zs => [Sl 4 tokF A l]) ?_ ?_
      · skip
        first | refine c_dec rfl (fun h58 => ?_) (fun h58 => ?_) | refine c_cond rfl (fun h58 => ?_) (fun h58 => ?_)
        · skip
          refine c_reg ?_
          first | refine l_q (by decide) (p_faddr (i := 1) 1 Try.underlying33 rfl inf_3 (by decide) rfl rfl).q ?_ | refine l_q (by decide) (p_faddro (i := 1) 1 Try.underlying33 rfl inf_3 (by decide) rfl rfl).q ?_
          first | refine l_q (by decide) (((r_loado Try.underlying3 rfl rfl (by repeat (first | exact List.Mem.head _ | apply List.Mem.tail)) (by rfl))).to (u := .int .i64 (n : Int)) (by rw [hn])).q ?_ | refine l_q (by decide) (((r_load1 Try.underlying3 rfl rfl (by first | exact .fact (by repeat (first | exact List.Mem.head _ | apply List.Mem.tail)) | exact .own (by repeat (first | exact List.Mem.head _ | apply List.Mem.tail)) (by decide) (fun _ => rfl)) (by first | assumption | rfl) (by rfl))).to (u := .int .i64 (n : Int)) (by rw [hn])).q ?_ | refine l_q (by decide) (((r_loadf Try.underlying3 rfl rfl (by first | exact .fact (by repeat (first | exact List.Mem.head _ | apply List.Mem.tail)) | exact .own (by repeat (first | exact List.Mem.head _ | apply List.Mem.tail)) (by decide) (fun _ => rfl)) (by assumption) (by rfl))).to (u := .int .i64 (n : Int)) (by rw [hn])).q ?_
          first | refine l_q (by decide) (p_add (j := 1) rfl rfl rfl rfl (by show _ ≤ (9223372036854775807 : Nat); omega)).q ?_ | refine l_q (by decide) (p_addi rfl rfl (by show (-9223372036854775808 : Int) ≤ _; omega) (by show _ ≤ ((9223372036854775807 : Nat) : Int); omega)).q ?_
          first | refine l_q (by decide) (p_faddr (i := 1) 1 Try.underlying33 rfl inf_3 (by decide) rfl rfl).q ?_ | refine l_q (by decide) (p_faddro (i := 1) 1 Try.underlying33 rfl inf_3 (by decide) rfl rfl).q ?_
          first | (refine l_store inf_3 rfl rfl rfl rfl (by first | decide | exact Nat.le_of_ble_eq_true rfl | (simp; done) | omega | (simp only [Nat.mul_one]; assumption)) ?_) | (refine l_perm (front1 _ _ _) ?_; refine l_store inf_3 rfl rfl rfl rfl (by first | decide | exact Nat.le_of_ble_eq_true rfl | (simp; done) | omega | (simp only [Nat.mul_one]; assumption)) ?_) | (refine l_perm (front2 _ _ _ _) ?_; refine l_store inf_3 rfl rfl rfl rfl (by first | decide | exact Nat.le_of_ble_eq_true rfl | (simp; done) | omega | (simp only [Nat.mul_one]; assumption)) ?_) | (refine l_perm (front3 _ _ _ _ _) ?_; refine l_store inf_3 rfl rfl rfl rfl (by first | decide | exact Nat.le_of_ble_eq_true rfl | (simp; done) | omega | (simp only [Nat.mul_one]; assumption)) ?_) | (refine l_perm (front4 _ _ _ _ _ _) ?_; refine l_store inf_3 rfl rfl rfl rfl (by first | decide | exact Nat.le_of_ble_eq_true rfl | (simp; done) | omega | (simp only [Nat.mul_one]; assumption)) ?_)
          refine l_nil ?_
          refine c_join (()) ?inv ?sub ?perm ?facts
          case sub => exact ⟨rfl, rfl, rfl, rfl, rfl, trivial⟩
          case perm =>
            rw [moved_cells _ n u hn, if_pos h58]
            repeat (first | exact List.Perm.refl _ | refine List.Perm.cons _ ?_ | refine (front1 _ _ _).trans (List.Perm.cons _ ?_) | refine (front2 _ _ _ _).trans (List.Perm.cons _ ?_) | refine (front3 _ _ _ _ _).trans (List.Perm.cons _ ?_) | refine (front4 _ _ _ _ _ _).trans (List.Perm.cons _ ?_))
          case facts => exact fun _ h => h
          case inv =>
            trivial
        · skip
          refine c_skip ?_
          refine c_join (()) ?inv ?sub ?perm ?facts
          case sub => exact ⟨rfl, rfl, rfl, rfl, rfl, trivial⟩
          case perm =>
            rw [moved_cells _ n u hn, if_neg h58, show tokF u = [.int .i64 u.kind, .int .i64 (n : Int), str u.text, .int .i64 u.look] by unfold tokF; rw [hn]]
            repeat (first | exact List.Perm.refl _ | refine List.Perm.cons _ ?_ | refine (front1 _ _ _).trans (List.Perm.cons _ ?_) | refine (front2 _ _ _ _).trans (List.Perm.cons _ ?_) | refine (front3 _ _ _ _ _).trans (List.Perm.cons _ ?_) | refine (front4 _ _ _ _ _ _).trans (List.Perm.cons _ ?_))
          case facts => exact fun _ h => h
          case inv =>
            trivial
      rintro uu hmeet
      show Cont _ _ _ _ [(2, .pointer (some ⟨b2, 0, none⟩)), (5, .int .i64 (Lay.start s n0 : Int)), (6, .slice A3 ((l.take k).map (Lay.moved (Lay.start s n0))).length c3), (7, .int .i64 (k : Int)), (8, .pointer (some ⟨b8, 0, none⟩))] ([iCells b8 33 (tokF (Lay.moved (Lay.start s n0) u)), iSl 33 4 tokF A3 c3 ((l.take k).map (Lay.moved (Lay.start s n0))), iCells b2 24 [.slice A l.length c, str s, .int .i64 defs]]) [Sl 4 tokF A l]
      refine c_reg ?_
      refine l_q (by decide) (p_move rfl).q ?_
      first | refine l_q (by decide) (r_loada Try.underlying33 rfl inf_33 rfl (by first | exact .fact (by repeat (first | exact List.Mem.head _ | apply List.Mem.tail)) | exact .own (by repeat (first | exact List.Mem.head _ | apply List.Mem.tail)) (by decide) (fun _ => rfl)) (by assumption)).q ?_ | refine l_q (by decide) (r_loadow Try.underlying33 rfl inf_33 rfl (by repeat (first | exact List.Mem.head _ | apply List.Mem.tail)) (by rfl)).q ?_ | refine l_q (by decide) (r_loadoa Try.underlying33 rfl inf_33 rfl (by repeat (first | exact List.Mem.head _ | apply List.Mem.tail)) (by rfl) (fun j u h => h)).q ?_
      refine l_buildSlice (by decide) Try.underlying22 inf_33 (by decide) (by decide) rfl rfl rfl rfl (fun b65 => ?_)
      first | (refine l_append1 (Lay.moved (Lay.start s n0) u) (by decide) Try.underlying22 inf_33 rfl (by decide) rfl rfl rfl rfl rfl rfl (by simp; omega) (by simp; omega) (fun A66 c66 hA66 => ?_)) | (refine l_perm (.cons _ (front1 _ _ _)) ?_; refine l_append1 (Lay.moved (Lay.start s n0) u) (by decide) Try.underlying22 inf_33 rfl (by decide) rfl rfl rfl rfl rfl rfl (by simp; omega) (by simp; omega) (fun A66 c66 hA66 => ?_)) | (refine l_perm (.cons _ (front2 _ _ _ _)) ?_; refine l_append1 (Lay.moved (Lay.start s n0) u) (by decide) Try.underlying22 inf_33 rfl (by decide) rfl rfl rfl rfl rfl rfl (by simp; omega) (by simp; omega) (fun A66 c66 hA66 => ?_))
      refine l_q (by decide) (p_assign rfl).q ?_
      refine l_nil ?_
      refine c_reg ?_
      refine l_q (by decide) (p_move rfl).q ?_
      first | refine l_q (by decide) (p_add (j := 1) rfl rfl rfl rfl (by show _ ≤ (9223372036854775807 : Nat); omega)).q ?_ | refine l_q (by decide) (p_addi rfl rfl (by show (-9223372036854775808 : Int) ≤ _; omega) (by show _ ≤ ((9223372036854775807 : Nat) : Int); omega)).q ?_
      refine l_q (by decide) (p_assign rfl).q ?_
      refine l_nil ?_
      first | (refine c_drop (x := iCells b8 _ _) ?_) | (refine c_perm (front1 _ _ _) ?_; refine c_drop (x := iCells b8 _ _) ?_) | (refine c_perm (front2 _ _ _ _) ?_; refine c_drop (x := iCells b8 _ _) ?_) | (refine c_perm (front3 _ _ _ _ _) ?_; refine c_drop (x := iCells b8 _ _) ?_) | (refine c_perm (front4 _ _ _ _ _ _) ?_; refine c_drop (x := iCells b8 _ _) ?_)
      refine c_join ((k + 1), (A66), (c66)) ?_ ?_ ?_ ?_
      · show ((k + 1) ≤ l.length) ∧ l.length - (k + 1) < l.length - k
        exact ⟨by omega, by omega⟩
      · exact ⟨rfl, rfl, (by rw [map_take hu]; rfl), rfl, trivial⟩
      · show List.Perm _ ([iSl 33 4 tokF (A66) (c66) ((l.take (k + 1)).map (Lay.moved (Lay.start s n0))), iCells b2 24 [.slice A l.length c, str s, .int .i64 defs]])
        rw [map_take hu]
        repeat (first | exact List.Perm.refl _ | refine List.Perm.cons _ ?_ | refine (front1 _ _ _).trans (List.Perm.cons _ ?_) | refine (front2 _ _ _ _).trans (List.Perm.cons _ ?_) | refine (front3 _ _ _ _ _).trans (List.Perm.cons _ ?_) | refine (front4 _ _ _ _ _ _).trans (List.Perm.cons _ ?_))
      · exact fun _ h => h
    · skip
      have hfull : l.take k = l := List.take_of_length_le (by omega)
      rw [hfull]
      have hal := app_short hf
      refine c_exit ?_
      refine c_here ?_
      refine c_seq ?_
      refine c_reg ?_
      first | refine l_q (by decide) (p_faddr (i := 0) 0 Try.underlying24 rfl inf_22 (by decide) rfl rfl).q ?_ | refine l_q (by decide) (p_faddro (i := 0) 0 Try.underlying24 rfl inf_22 (by decide) rfl rfl).q ?_
      first | refine l_q (by decide) (r_loado Try.underlying22 rfl rfl (by repeat (first | exact List.Mem.head _ | apply List.Mem.tail)) (by rfl)).q ?_ | refine l_q (by decide) (r_load1 Try.underlying22 rfl rfl (by first | exact .fact (by repeat (first | exact List.Mem.head _ | apply List.Mem.tail)) | exact .own (by repeat (first | exact List.Mem.head _ | apply List.Mem.tail)) (by decide) (fun _ => rfl)) (by first | assumption | rfl) (by rfl)).q ?_ | refine l_q (by decide) (r_loadf Try.underlying22 rfl rfl (by first | exact .fact (by repeat (first | exact List.Mem.head _ | apply List.Mem.tail)) | exact .own (by repeat (first | exact List.Mem.head _ | apply List.Mem.tail)) (by decide) (fun _ => rfl)) (by assumption) (by rfl)).q ?_
      first | refine l_q (by decide) (p_faddr (i := 1) 1 Try.underlying24 rfl inf_9 (by decide) rfl rfl).q ?_ | refine l_q (by decide) (p_faddro (i := 1) 1 Try.underlying24 rfl inf_9 (by decide) rfl rfl).q ?_
      first | refine l_q (by decide) (r_loado Try.underlying9 rfl rfl (by repeat (first | exact List.Mem.head _ | apply List.Mem.tail)) (by rfl)).q ?_ | refine l_q (by decide) (r_load1 Try.underlying9 rfl rfl (by first | exact .fact (by repeat (first | exact List.Mem.head _ | apply List.Mem.tail)) | exact .own (by repeat (first | exact List.Mem.head _ | apply List.Mem.tail)) (by decide) (fun _ => rfl)) (by first | assumption | rfl) (by rfl)).q ?_ | refine l_q (by decide) (r_loadf Try.underlying9 rfl rfl (by first | exact .fact (by repeat (first | exact List.Mem.head _ | apply List.Mem.tail)) | exact .own (by repeat (first | exact List.Mem.head _ | apply List.Mem.tail)) (by decide) (fun _ => rfl)) (by assumption) (by rfl)).q ?_
      first | refine l_q (by decide) (p_faddr (i := 2) 2 Try.underlying24 rfl inf_3 (by decide) rfl rfl).q ?_ | refine l_q (by decide) (p_faddro (i := 2) 2 Try.underlying24 rfl inf_3 (by decide) rfl rfl).q ?_
      first | refine l_q (by decide) (r_loado Try.underlying3 rfl rfl (by repeat (first | exact List.Mem.head _ | apply List.Mem.tail)) (by rfl)).q ?_ | refine l_q (by decide) (r_load1 Try.underlying3 rfl rfl (by first | exact .fact (by repeat (first | exact List.Mem.head _ | apply List.Mem.tail)) | exact .own (by repeat (first | exact List.Mem.head _ | apply List.Mem.tail)) (by decide) (fun _ => rfl)) (by first | assumption | rfl) (by rfl)).q ?_ | refine l_q (by decide) (r_loadf Try.underlying3 rfl rfl (by first | exact .fact (by repeat (first | exact List.Mem.head _ | apply List.Mem.tail)) | exact .own (by repeat (first | exact List.Mem.head _ | apply List.Mem.tail)) (by decide) (fun _ => rfl)) (by assumption) (by rfl)).q ?_
      refine l_call (X := Capd (Lay.app l s defs)) (fun x => .slice x.1.1 (Lay.app l s defs).length x.1.2) (fun x => Sl 4 tokF x.1.1 (Lay.app l s defs)) (by decide) call_13 rfl (fun w hs => apply_ok A c l s defs hf.len (by have := hf.slen; omega) hf.d0 hf.d1 hf.at_ w (hs.facts _ (by repeat (first | exact List.Mem.head _ | apply List.Mem.tail))).1) (fun x73 => ?_)
      refine l_q (by decide) (p_assign rfl).q ?_
      refine l_nil ?_
      refine c_seq ?_
      refine m_draw [] mixed ?_
      refine m_takep 0 rfl (by kernel_rfl) (by decide) (p_move rfl) ?_
      first | refine m_takep 1 rfl (by kernel_rfl) (by decide) (p_faddr (i := 1) 1 Try.underlying24 rfl inf_9 (by decide) rfl rfl) ?_ | refine m_takep 1 rfl (by kernel_rfl) (by decide) (p_faddro (i := 1) 1 Try.underlying24 rfl inf_9 (by decide) rfl rfl) ?_
      first | refine m_take 2 rfl (by kernel_rfl) (by decide) (by first | exact (List.Perm.refl _ : List.Perm _ ([] ++ _)) | exact (List.Perm.refl _ : List.Perm _ ([_] ++ _)) | exact (List.Perm.refl _ : List.Perm _ ([_, _] ++ _)) | exact (List.Perm.refl _ : List.Perm _ ([_, _, _] ++ _)) | exact (List.Perm.refl _ : List.Perm _ ([_, _, _, _] ++ _)) | exact (List.Perm.refl _ : List.Perm _ ([_, _, _, _, _] ++ _))) (by first | exact fun _ h => h | exact fun _ h => List.mem_cons_of_mem _ h | exact fun _ h => List.mem_cons_of_mem _ (List.mem_cons_of_mem _ h)) (r_loado Try.underlying9 rfl rfl (by repeat (first | exact List.Mem.head _ | apply List.Mem.tail)) (by rfl)).r ?_ | refine m_take 2 rfl (by kernel_rfl) (by decide) (by first | exact (List.Perm.refl _ : List.Perm _ ([] ++ _)) | exact (List.Perm.refl _ : List.Perm _ ([_] ++ _)) | exact (List.Perm.refl _ : List.Perm _ ([_, _] ++ _)) | exact (List.Perm.refl _ : List.Perm _ ([_, _, _] ++ _)) | exact (List.Perm.refl _ : List.Perm _ ([_, _, _, _] ++ _)) | exact (List.Perm.refl _ : List.Perm _ ([_, _, _, _, _] ++ _))) (by first | exact fun _ h => h | exact fun _ h => List.mem_cons_of_mem _ h | exact fun _ h => List.mem_cons_of_mem _ (List.mem_cons_of_mem _ h)) (r_load1 Try.underlying9 rfl rfl (by first | exact .fact (by repeat (first | exact List.Mem.head _ | apply List.Mem.tail)) | exact .own (by repeat (first | exact List.Mem.head _ | apply List.Mem.tail)) (by decide) (fun _ => rfl)) (by first | assumption | rfl) (by rfl)).r ?_ | refine m_take 2 rfl (by kernel_rfl) (by decide) (by first | exact (List.Perm.refl _ : List.Perm _ ([] ++ _)) | exact (List.Perm.refl _ : List.Perm _ ([_] ++ _)) | exact (List.Perm.refl _ : List.Perm _ ([_, _] ++ _)) | exact (List.Perm.refl _ : List.Perm _ ([_, _, _] ++ _)) | exact (List.Perm.refl _ : List.Perm _ ([_, _, _, _] ++ _)) | exact (List.Perm.refl _ : List.Perm _ ([_, _, _, _, _] ++ _))) (by first | exact fun _ h => h | exact fun _ h => List.mem_cons_of_mem _ h | exact fun _ h => List.mem_cons_of_mem _ (List.mem_cons_of_mem _ h)) (r_loadf Try.underlying9 rfl rfl (by first | exact .fact (by repeat (first | exact List.Mem.head _ | apply List.Mem.tail)) | exact .own (by repeat (first | exact List.Mem.head _ | apply List.Mem.tail)) (by decide) (fun _ => rfl)) (by assumption) (by rfl)).r ?_
      refine m_takep 3 rfl (by kernel_rfl) (by decide) (p_move rfl) ?_
      first | refine m_takep 4 rfl (by kernel_rfl) (by decide) (p_slice_h Try.underlying9 rfl rfl rfl (by omega)) ?_ | refine m_takep 4 rfl (by kernel_rfl) (by decide) (p_slice_h Try.underlying9 rfl rfl rfl (by simp; omega)) ?_
      first | refine m_takep 5 rfl (by kernel_rfl) (by decide) (p_cat rfl rfl (by omega)) ?_ | refine m_takep 5 rfl (by kernel_rfl) (by decide) (p_cat rfl rfl (by simp; omega)) ?_
      first | refine m_takep 6 rfl (by kernel_rfl) (by decide) (p_faddr (i := 1) 1 Try.underlying24 rfl inf_9 (by decide) rfl rfl) ?_ | refine m_takep 6 rfl (by kernel_rfl) (by decide) (p_faddro (i := 1) 1 Try.underlying24 rfl inf_9 (by decide) rfl rfl) ?_
      first | refine m_take 7 rfl (by kernel_rfl) (by decide) (by first | exact (List.Perm.refl _ : List.Perm _ ([] ++ _)) | exact (List.Perm.refl _ : List.Perm _ ([_] ++ _)) | exact (List.Perm.refl _ : List.Perm _ ([_, _] ++ _)) | exact (List.Perm.refl _ : List.Perm _ ([_, _, _] ++ _)) | exact (List.Perm.refl _ : List.Perm _ ([_, _, _, _] ++ _)) | exact (List.Perm.refl _ : List.Perm _ ([_, _, _, _, _] ++ _))) (by first | exact fun _ h => h | exact fun _ h => List.mem_cons_of_mem _ h | exact fun _ h => List.mem_cons_of_mem _ (List.mem_cons_of_mem _ h)) (r_loado Try.underlying9 rfl rfl (by repeat (first | exact List.Mem.head _ | apply List.Mem.tail)) (by rfl)).r ?_ | refine m_take 7 rfl (by kernel_rfl) (by decide) (by first | exact (List.Perm.refl _ : List.Perm _ ([] ++ _)) | exact (List.Perm.refl _ : List.Perm _ ([_] ++ _)) | exact (List.Perm.refl _ : List.Perm _ ([_, _] ++ _)) | exact (List.Perm.refl _ : List.Perm _ ([_, _, _] ++ _)) | exact (List.Perm.refl _ : List.Perm _ ([_, _, _, _] ++ _)) | exact (List.Perm.refl _ : List.Perm _ ([_, _, _, _, _] ++ _))) (by first | exact fun _ h => h | exact fun _ h => List.mem_cons_of_mem _ h | exact fun _ h => List.mem_cons_of_mem _ (List.mem_cons_of_mem _ h)) (r_load1 Try.underlying9 rfl rfl (by first | exact .fact (by repeat (first | exact List.Mem.head _ | apply List.Mem.tail)) | exact .own (by repeat (first | exact List.Mem.head _ | apply List.Mem.tail)) (by decide) (fun _ => rfl)) (by first | assumption | rfl) (by rfl)).r ?_ | refine m_take 7 rfl (by kernel_rfl) (by decide) (by first | exact (List.Perm.refl _ : List.Perm _ ([] ++ _)) | exact (List.Perm.refl _ : List.Perm _ ([_] ++ _)) | exact (List.Perm.refl _ : List.Perm _ ([_, _] ++ _)) | exact (List.Perm.refl _ : List.Perm _ ([_, _, _] ++ _)) | exact (List.Perm.refl _ : List.Perm _ ([_, _, _, _] ++ _)) | exact (List.Perm.refl _ : List.Perm _ ([_, _, _, _, _] ++ _))) (by first | exact fun _ h => h | exact fun _ h => List.mem_cons_of_mem _ h | exact fun _ h => List.mem_cons_of_mem _ (List.mem_cons_of_mem _ h)) (r_loadf Try.underlying9 rfl rfl (by first | exact .fact (by repeat (first | exact List.Mem.head _ | apply List.Mem.tail)) | exact .own (by repeat (first | exact List.Mem.head _ | apply List.Mem.tail)) (by decide) (fun _ => rfl)) (by assumption) (by rfl)).r ?_
      refine m_takep 8 rfl (by kernel_rfl) (by decide) (p_move rfl) ?_
      first | refine m_takep 9 rfl (by kernel_rfl) (by decide) (p_slice_l Try.underlying9 rfl rfl rfl (by omega)) ?_ | refine m_takep 9 rfl (by kernel_rfl) (by decide) (p_slice_l Try.underlying9 rfl rfl rfl (by simp; omega)) ?_
      first | refine m_takep 10 rfl (by kernel_rfl) (by decide) (((p_cat rfl rfl (by omega))).to (u := str (Lay.lined s (Lay.start s n0))) (by rw [lined_eq])) ?_ | refine m_takep 10 rfl (by kernel_rfl) (by decide) (((p_cat rfl rfl (by simp; omega))).to (u := str (Lay.lined s (Lay.start s n0))) (by rw [lined_eq])) ?_
      first | refine m_takep 11 rfl (by kernel_rfl) (by decide) (p_faddr (i := 2) 2 Try.underlying24 rfl inf_3 (by decide) rfl rfl) ?_ | refine m_takep 11 rfl (by kernel_rfl) (by decide) (p_faddro (i := 2) 2 Try.underlying24 rfl inf_3 (by decide) rfl rfl) ?_
      first | refine m_take 12 rfl (by kernel_rfl) (by decide) (by first | exact (List.Perm.refl _ : List.Perm _ ([] ++ _)) | exact (List.Perm.refl _ : List.Perm _ ([_] ++ _)) | exact (List.Perm.refl _ : List.Perm _ ([_, _] ++ _)) | exact (List.Perm.refl _ : List.Perm _ ([_, _, _] ++ _)) | exact (List.Perm.refl _ : List.Perm _ ([_, _, _, _] ++ _)) | exact (List.Perm.refl _ : List.Perm _ ([_, _, _, _, _] ++ _))) (by first | exact fun _ h => h | exact fun _ h => List.mem_cons_of_mem _ h | exact fun _ h => List.mem_cons_of_mem _ (List.mem_cons_of_mem _ h)) (r_loado Try.underlying3 rfl rfl (by repeat (first | exact List.Mem.head _ | apply List.Mem.tail)) (by rfl)).r ?_ | refine m_take 12 rfl (by kernel_rfl) (by decide) (by first | exact (List.Perm.refl _ : List.Perm _ ([] ++ _)) | exact (List.Perm.refl _ : List.Perm _ ([_] ++ _)) | exact (List.Perm.refl _ : List.Perm _ ([_, _] ++ _)) | exact (List.Perm.refl _ : List.Perm _ ([_, _, _] ++ _)) | exact (List.Perm.refl _ : List.Perm _ ([_, _, _, _] ++ _)) | exact (List.Perm.refl _ : List.Perm _ ([_, _, _, _, _] ++ _))) (by first | exact fun _ h => h | exact fun _ h => List.mem_cons_of_mem _ h | exact fun _ h => List.mem_cons_of_mem _ (List.mem_cons_of_mem _ h)) (r_load1 Try.underlying3 rfl rfl (by first | exact .fact (by repeat (first | exact List.Mem.head _ | apply List.Mem.tail)) | exact .own (by repeat (first | exact List.Mem.head _ | apply List.Mem.tail)) (by decide) (fun _ => rfl)) (by first | assumption | rfl) (by rfl)).r ?_ | refine m_take 12 rfl (by kernel_rfl) (by decide) (by first | exact (List.Perm.refl _ : List.Perm _ ([] ++ _)) | exact (List.Perm.refl _ : List.Perm _ ([_] ++ _)) | exact (List.Perm.refl _ : List.Perm _ ([_, _] ++ _)) | exact (List.Perm.refl _ : List.Perm _ ([_, _, _] ++ _)) | exact (List.Perm.refl _ : List.Perm _ ([_, _, _, _] ++ _)) | exact (List.Perm.refl _ : List.Perm _ ([_, _, _, _, _] ++ _))) (by first | exact fun _ h => h | exact fun _ h => List.mem_cons_of_mem _ h | exact fun _ h => List.mem_cons_of_mem _ (List.mem_cons_of_mem _ h)) (r_loadf Try.underlying3 rfl rfl (by first | exact .fact (by repeat (first | exact List.Mem.head _ | apply List.Mem.tail)) | exact .own (by repeat (first | exact List.Mem.head _ | apply List.Mem.tail)) (by decide) (fun _ => rfl)) (by assumption) (by rfl)).r ?_
      refine m_run 13 rfl (by kernel_rfl) ?_
      refine l_call (X := Capd (Lay.app (l.map (Lay.moved (Lay.start s n0))) (Lay.lined s (Lay.start s n0)) defs)) (fun x => .slice x.1.1 (Lay.app (l.map (Lay.moved (Lay.start s n0))) (Lay.lined s (Lay.start s n0)) defs).length x.1.2) (fun x => Sl 4 tokF x.1.1 (Lay.app (l.map (Lay.moved (Lay.start s n0))) (Lay.lined s (Lay.start s n0)) defs)) (by decide) call_13 rfl (fun w hs => apply_ok A3 c3 (l.map (Lay.moved (Lay.start s n0))) (Lay.lined s (Lay.start s n0)) defs (by rw [List.length_map]; exact hf.len) (by rw [lined_len s _ (by omega)]; have := hf.slen; omega) hf.d0 hf.d1 (moved_at (by omega) hf.at_) w (row_sl len_tokF (hs.own _ (by repeat (first | exact List.Mem.head _ | apply List.Mem.tail))).1 (by decide))) (fun x87 => ?_)
      refine l_nil ?_
      refine m_next _ (by first | exact (List.Perm.refl _ : List.Perm _ ([] ++ _)) | exact (List.Perm.refl _ : List.Perm _ ([_] ++ _)) | exact (List.Perm.refl _ : List.Perm _ ([_, _] ++ _)) | exact (List.Perm.refl _ : List.Perm _ ([_, _, _] ++ _)) | exact (List.Perm.refl _ : List.Perm _ ([_, _, _, _] ++ _)) | exact (List.Perm.refl _ : List.Perm _ ([_, _, _, _, _] ++ _))) (by first | exact fun _ h => h | exact fun _ h => List.mem_cons_of_mem _ h | exact fun _ h => List.mem_cons_of_mem _ (List.mem_cons_of_mem _ h)) ?_
      refine m_takep 14 rfl (by kernel_rfl) (by decide) (p_assign rfl) ?_
      refine m_done (by kernel_rfl) ?_
      refine c_seq ?_
      refine c_reg ?_
      refine l_q (by decide) (p_assign rfl).q ?_
      refine l_nil ?_
      refine c_seq ?_
      refine c_seq ?_
      refine c_reg ?_
      refine l_q (by decide) (p_assign (v := .int .i64 ((0 : Nat) : Int)) rfl).q ?_
      refine l_nil ?_
      refine c_block ?_
      refine c_sl0 3 1 intF ?_
      refine c_loop (S := Nat × Option Addr × Nat) (fun zs => zs.1 ≤ (Lay.app l s defs).length) (fun zs => (Lay.app l s defs).length - zs.1) (fun zs => [(9, .slice x73.1.1 (Lay.app l s defs).length x73.1.2), (10, .slice x87.1.1 (Lay.app (l.map (Lay.moved (Lay.start s n0))) (Lay.lined s (Lay.start s n0)) defs).length x87.1.2), (11, .slice zs.2.1 (Lay.kinds ((Lay.app l s defs).take zs.1)).length zs.2.2), (12, .int .i64 (zs.1 : Int))]) (fun zs => [iSl 3 1 intF zs.2.1 zs.2.2 (Lay.kinds ((Lay.app l s defs).take zs.1)), iSl 33 4 tokF A3 c3 (l.map (Lay.moved (Lay.start s n0))), iCells b2 24 [.slice A l.length c, str s, .int .i64 defs]]) (fun zs => [Sl 4 tokF x87.1.1 (Lay.app (l.map (Lay.moved (Lay.start s n0))) (Lay.lined s (Lay.start s n0)) defs), Sl 4 tokF x73.1.1 (Lay.app l s defs), Sl 4 tokF A l]) (0, none, 0) ?_ ?_ ?_ ?_ ?_
      · show (0) ≤ (Lay.app l s defs).length
        exact Nat.zero_le _
      · exact ⟨rfl, rfl, rfl, rfl, trivial⟩
      · exact .refl _
      · exact fun _ h => h
      rintro ⟨k, A4, c4⟩ hinv
      have hinv : k ≤ (Lay.app l s defs).length := hinv
      have hkl := hinv
      show Cont _ _ _ _ [(9, .slice x73.1.1 (Lay.app l s defs).length x73.1.2), (10, .slice x87.1.1 (Lay.app (l.map (Lay.moved (Lay.start s n0))) (Lay.lined s (Lay.start s n0)) defs).length x87.1.2), (11, .slice A4 (Lay.kinds ((Lay.app l s defs).take k)).length c4), (12, .int .i64 (k : Int))] ([iSl 3 1 intF A4 c4 (Lay.kinds ((Lay.app l s defs).take k)), iSl 33 4 tokF A3 c3 (l.map (Lay.moved (Lay.start s n0))), iCells b2 24 [.slice A l.length c, str s, .int .i64 defs]]) [Sl 4 tokF x87.1.1 (Lay.app (l.map (Lay.moved (Lay.start s n0))) (Lay.lined s (Lay.start s n0)) defs), Sl 4 tokF x73.1.1 (Lay.app l s defs), Sl 4 tokF A l]
      refine c_seq ?_
      refine c_seq ?_
      refine c_reg ?_
      refine l_q (by decide) (p_move rfl).q ?_
      refine l_q (by decide) (p_move rfl).q ?_
      refine l_q (by decide) (p_len_sl Try.underlying22 rfl).q ?_
      first | refine l_q (by decide) (p_lss rfl rfl rfl rfl).q ?_ | refine l_q (by decide) (p_lssi rfl rfl).q ?_
      refine l_nil ?_
      first | refine c_dec rfl (fun h91 => ?_) (fun h91 => ?_) | refine c_cond rfl (fun h91 => ?_) (fun h91 => ?_)
      · skip
        obtain ⟨x, hx⟩ := at_some (l := Lay.app l s defs) (n := k) (by omega)
        refine c_skip ?_
        refine c_seq ?_
        refine c_block ?_
        refine c_reg ?_
        refine l_q (by decide) (p_move rfl).q ?_
        refine l_q (by decide) (p_move rfl).q ?_
        refine l_q (by decide) (p_move rfl).q ?_
        first | refine l_q (by decide) (r_index Try.underlying22 inf_33 rfl rfl rfl (by first | exact .fact (by repeat (first | exact List.Mem.head _ | apply List.Mem.tail)) | exact .own (by repeat (first | exact List.Mem.head _ | apply List.Mem.tail)) (by decide) (fun _ => rfl)) rfl (by omega)).q ?_ | refine l_q (by decide) (r_index Try.underlying22 inf_33 rfl rfl rfl (by first | exact .fact (by repeat (first | exact List.Mem.head _ | apply List.Mem.tail)) | exact .own (by repeat (first | exact List.Mem.head _ | apply List.Mem.tail)) (by decide) (fun _ => rfl)) rfl (by decide)).q ?_ | refine l_q (by decide) (p_indexo Try.underlying22 inf_33 rfl rfl rfl (by omega)).q ?_
        first | refine l_q (by decide) (p_faddr (i := 0) 0 Try.underlying33 rfl inf_3 (by decide) rfl rfl).q ?_ | refine l_q (by decide) (p_faddro (i := 0) 0 Try.underlying33 rfl inf_3 (by decide) rfl rfl).q ?_
        first | refine l_q (by decide) (r_loado Try.underlying3 rfl rfl (by repeat (first | exact List.Mem.head _ | apply List.Mem.tail)) (by rfl)).q ?_ | refine l_q (by decide) (r_load1 Try.underlying3 rfl rfl (by first | exact .fact (by repeat (first | exact List.Mem.head _ | apply List.Mem.tail)) | exact .own (by repeat (first | exact List.Mem.head _ | apply List.Mem.tail)) (by decide) (fun _ => rfl)) (by first | assumption | rfl) (by rfl)).q ?_ | refine l_q (by decide) (r_loadf Try.underlying3 rfl rfl (by first | exact .fact (by repeat (first | exact List.Mem.head _ | apply List.Mem.tail)) | exact .own (by repeat (first | exact List.Mem.head _ | apply List.Mem.tail)) (by decide) (fun _ => rfl)) (by assumption) (by rfl)).q ?_
        refine l_buildSlice (by decide) Try.underlying35 inf_3 (by decide) (by decide) rfl rfl rfl rfl (fun b100 => ?_)
        first | (refine l_append1 (x.kind) (by decide) Try.underlying35 inf_3 rfl (by decide) rfl rfl rfl rfl rfl rfl (by rw [len_kinds, List.length_take]; omega) (by rw [len_kinds, List.length_take]; omega) (fun A101 c101 hA101 => ?_)) | (refine l_perm (.cons _ (front1 _ _ _)) ?_; refine l_append1 (x.kind) (by decide) Try.underlying35 inf_3 rfl (by decide) rfl rfl rfl rfl rfl rfl (by rw [len_kinds, List.length_take]; omega) (by rw [len_kinds, List.length_take]; omega) (fun A101 c101 hA101 => ?_)) | (refine l_perm (.cons _ (front2 _ _ _ _)) ?_; refine l_append1 (x.kind) (by decide) Try.underlying35 inf_3 rfl (by decide) rfl rfl rfl rfl rfl rfl (by rw [len_kinds, List.length_take]; omega) (by rw [len_kinds, List.length_take]; omega) (fun A101 c101 hA101 => ?_))
        refine l_q (by decide) (p_assign rfl).q ?_
        refine l_nil ?_
        refine c_reg ?_
        refine l_q (by decide) (p_move rfl).q ?_
        first | refine l_q (by decide) (p_add (j := 1) rfl rfl rfl rfl (by show _ ≤ (9223372036854775807 : Nat); omega)).q ?_ | refine l_q (by decide) (p_addi rfl rfl (by show (-9223372036854775808 : Int) ≤ _; omega) (by show _ ≤ ((9223372036854775807 : Nat) : Int); omega)).q ?_
        refine l_q (by decide) (p_assign rfl).q ?_
        refine l_nil ?_
        refine c_join ((k + 1), (A101), (c101)) ?_ ?_ ?_ ?_
        · show ((k + 1) ≤ (Lay.app l s defs).length) ∧ (Lay.app l s defs).length - (k + 1) < (Lay.app l s defs).length - k
          exact ⟨by omega, by omega⟩
        · exact ⟨rfl, rfl, (by rw [kinds_take hx]; rfl), rfl, trivial⟩
        · show List.Perm _ ([iSl 3 1 intF (A101) (c101) (Lay.kinds ((Lay.app l s defs).take (k + 1))), iSl 33 4 tokF A3 c3 (l.map (Lay.moved (Lay.start s n0))), iCells b2 24 [.slice A l.length c, str s, .int .i64 defs]])
          rw [kinds_take hx]
          repeat (first | exact List.Perm.refl _ | refine List.Perm.cons _ ?_ | refine (front1 _ _ _).trans (List.Perm.cons _ ?_) | refine (front2 _ _ _ _).trans (List.Perm.cons _ ?_) | refine (front3 _ _ _ _ _).trans (List.Perm.cons _ ?_) | refine (front4 _ _ _ _ _ _).trans (List.Perm.cons _ ?_))
        · exact fun _ h => h
      · skip
        have hfull2 : (Lay.app l s defs).take k = Lay.app l s defs := List.take_of_length_le (by omega)
        rw [hfull2]
        refine c_exit ?_
        refine c_here ?_
        refine c_seq ?_
        refine c_reg ?_
        refine l_q (by decide) (p_move rfl).q ?_
        refine l_q (by decide) (p_move rfl).q ?_
        refine l_q (by decide) (q_call call_21 rfl (fun w hs => kinds_emp x87.1.1 A4 x87.1.2 c4 l s (Lay.start s n0) defs (by omega) (Lay.start_start s n0) hll w (hs.facts _ (by repeat (first | exact List.Mem.head _ | apply List.Mem.tail))).1 (row_sl len_intF (hs.own _ (by repeat (first | exact List.Mem.head _ | apply List.Mem.tail))).1 (by decide)))) ?_
        refine l_q (by decide) (p_assign rfl).q ?_
        refine l_nil ?_
        refine c_ret ?_
        refine c_ret1 rfl rfl (fun w hs => ?_)
        exact ⟨rfl, hs.ext⟩
end Go.Proofs.Ytejhgbnpmelgcaa
