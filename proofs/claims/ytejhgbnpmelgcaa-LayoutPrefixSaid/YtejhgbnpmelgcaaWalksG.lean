/- The walks of the off-side rule, seventh part; conditions: none. -/
import Derived.Test.YtejhgbnpmelgcaaWalksF
namespace Go.Proofs.Ytejhgbnpmelgcaa
open Go Go.Fx Go.Proofs
theorem sep_law (A : Option Addr) (c : Nat) (l : List Lay.T) (s : List UInt8) (defs : Int) (hl : l.length ≤ 140737488351232) (hsl : s.length ≤ 140737488351232) (hk : ∀ t, t ∈ l → -9223372036854775808 ≤ t.kind ∧ t.kind ≤ 9223372036854775807) (w : World) (hq : Sl 4 tokF A l w) :
    Calls Try.prog 7 #[.agg #[.slice A l.length c, str s, .int .i64 defs]] w (Ret fun v w' => v = .bool true ∧ Ext [] w w') := by
  refine calls_fx (l := [.agg #[.slice A l.length c, str s, .int .i64 defs]]) Try.func7 rfl Try.ntmps7 (Nat.le_of_ble_eq_true rfl) ((St.start w).old hq (dep_sl (by decide) hq)) ?_
  refine c_seq ?_
  refine c_reg ?_
  refine l_box (by decide) rfl _ rfl (fun b1 => ?_)
  refine l_q (by decide) (p_assign rfl).q ?_
  refine l_nil ?_
  refine c_seq ?_
  refine c_seq ?_
  refine c_reg ?_
  refine l_q (by decide) (q_call call_10 rfl (fun w hs => awake_ok w)) ?_
  refine l_q (by decide) (p_not rfl).q ?_
  refine l_nil ?_
  refine c_false rfl ?_
  refine c_skip ?_
  refine c_seq ?_
  refine c_seq ?_
  refine c_meetn (S := Unit) (fun zs => True) (fun zs => [(1, .pointer (some ⟨b1, 0, none⟩)), (23, .bool (decide (¬ Lay.fairB l s defs = true ∨ ¬ Lay.plainB defs l = true)))]) (fun zs => [iCells b1 24 [.slice A l.length c, str s, .int .i64 defs]]) (fun zs => [Sl 4 tokF A l]) ?_ ?_
  · skip
    refine c_reg ?_
    first | refine l_q (by decide) (p_faddr (i := 0) 0 Try.underlying24 rfl inf_22 (by decide) rfl rfl).q ?_ | refine l_q (by decide) (p_faddro (i := 0) 0 Try.underlying24 rfl inf_22 (by decide) rfl rfl).q ?_
    first | refine l_q (by decide) (r_loado Try.underlying22 rfl rfl (by repeat (first | exact List.Mem.head _ | apply List.Mem.tail)) (by rfl)).q ?_ | refine l_q (by decide) (r_load1 Try.underlying22 rfl rfl (by first | exact .fact (by repeat (first | exact List.Mem.head _ | apply List.Mem.tail)) | exact .own (by repeat (first | exact List.Mem.head _ | apply List.Mem.tail)) (by decide) (fun _ => rfl)) (by first | assumption | rfl) (by rfl)).q ?_ | refine l_q (by decide) (r_loadf Try.underlying22 rfl rfl (by first | exact .fact (by repeat (first | exact List.Mem.head _ | apply List.Mem.tail)) | exact .own (by repeat (first | exact List.Mem.head _ | apply List.Mem.tail)) (by decide) (fun _ => rfl)) (by assumption) (by rfl)).q ?_
    first | refine l_q (by decide) (p_faddr (i := 1) 1 Try.underlying24 rfl inf_9 (by decide) rfl rfl).q ?_ | refine l_q (by decide) (p_faddro (i := 1) 1 Try.underlying24 rfl inf_9 (by decide) rfl rfl).q ?_
    first | refine l_q (by decide) (r_loado Try.underlying9 rfl rfl (by repeat (first | exact List.Mem.head _ | apply List.Mem.tail)) (by rfl)).q ?_ | refine l_q (by decide) (r_load1 Try.underlying9 rfl rfl (by first | exact .fact (by repeat (first | exact List.Mem.head _ | apply List.Mem.tail)) | exact .own (by repeat (first | exact List.Mem.head _ | apply List.Mem.tail)) (by decide) (fun _ => rfl)) (by first | assumption | rfl) (by rfl)).q ?_ | refine l_q (by decide) (r_loadf Try.underlying9 rfl rfl (by first | exact .fact (by repeat (first | exact List.Mem.head _ | apply List.Mem.tail)) | exact .own (by repeat (first | exact List.Mem.head _ | apply List.Mem.tail)) (by decide) (fun _ => rfl)) (by assumption) (by rfl)).q ?_
    first | refine l_q (by decide) (p_faddr (i := 2) 2 Try.underlying24 rfl inf_3 (by decide) rfl rfl).q ?_ | refine l_q (by decide) (p_faddro (i := 2) 2 Try.underlying24 rfl inf_3 (by decide) rfl rfl).q ?_
    first | refine l_q (by decide) (r_loado Try.underlying3 rfl rfl (by repeat (first | exact List.Mem.head _ | apply List.Mem.tail)) (by rfl)).q ?_ | refine l_q (by decide) (r_load1 Try.underlying3 rfl rfl (by first | exact .fact (by repeat (first | exact List.Mem.head _ | apply List.Mem.tail)) | exact .own (by repeat (first | exact List.Mem.head _ | apply List.Mem.tail)) (by decide) (fun _ => rfl)) (by first | assumption | rfl) (by rfl)).q ?_ | refine l_q (by decide) (r_loadf Try.underlying3 rfl rfl (by first | exact .fact (by repeat (first | exact List.Mem.head _ | apply List.Mem.tail)) | exact .own (by repeat (first | exact List.Mem.head _ | apply List.Mem.tail)) (by decide) (fun _ => rfl)) (by assumption) (by rfl)).q ?_
    refine l_q (by decide) (q_call call_11 rfl (fun w hs => fair_ok A c l s defs hl hsl w (hs.facts _ (by repeat (first | exact List.Mem.head _ | apply List.Mem.tail))).1)) ?_
    first | refine l_q (by decide) (p_notd rfl).q ?_ | refine l_q (by decide) (p_not rfl).q ?_
    refine l_q (by decide) (p_move rfl).q ?_
    first | refine l_splitd (t := 19) rfl (fun h19 => ?_) (fun h19 => ?_) | refine l_splitb (t := 19) rfl (fun h19 => ?_) (fun h19 => ?_)
    · skip
      refine l_off (j := 8) rfl rfl (by first | (simp; done) | (simp [undef]; done)) (by decide) ?_
      refine l_off (j := 8) rfl rfl (by first | (simp; done) | (simp [undef]; done)) (by decide) ?_
      refine l_off (j := 8) rfl rfl (by first | (simp; done) | (simp [undef]; done)) (by decide) ?_
      refine l_q (by decide) (p_pick rfl rfl).q ?_
      refine l_nil ?_
      refine c_join (()) ?inv ?sub ?perm ?facts
      case sub => exact ⟨rfl, (boolp (.inl (by simpa using h19))), trivial⟩
      case perm =>
        exact .refl _
      case facts => exact fun _ h => h
      case inv =>
        trivial
    · skip
      have hf0 := Lay.fairB_spec (show Lay.fairB l s defs = true by simpa using h19)
      first | refine l_g (j := 8) rfl rfl (by decide) (r_loada Try.underlying24 rfl inf_24 rfl (by first | exact .fact (by repeat (first | exact List.Mem.head _ | apply List.Mem.tail)) | exact .own (by repeat (first | exact List.Mem.head _ | apply List.Mem.tail)) (by decide) (fun _ => rfl)) (by assumption)).q ?_ | refine l_g (j := 8) rfl rfl (by decide) (r_loadow Try.underlying24 rfl inf_24 rfl (by repeat (first | exact List.Mem.head _ | apply List.Mem.tail)) (by rfl)).q ?_ | refine l_g (j := 8) rfl rfl (by decide) (r_loadoa Try.underlying24 rfl inf_24 rfl (by repeat (first | exact List.Mem.head _ | apply List.Mem.tail)) (by rfl) (fun j u h => h)).q ?_
      refine l_g (j := 8) rfl rfl (by decide) (q_call call_15 rfl (fun w hs => plain_ok A c l s defs (by have := hf0.len; omega) w (hs.facts _ (by repeat (first | exact List.Mem.head _ | apply List.Mem.tail))).1)) ?_
      first | refine l_g (j := 8) rfl rfl (by decide) (p_notd rfl).q ?_ | refine l_g (j := 8) rfl rfl (by decide) (p_not rfl).q ?_
      refine l_q (by decide) (p_pick rfl rfl).q ?_
      refine l_nil ?_
      refine c_join (()) ?inv ?sub ?perm ?facts
      case sub => exact ⟨rfl, (by rw [show Lay.fairB l s defs = true by simpa using h19]; cases hb : Lay.plainB defs l <;> rfl), trivial⟩
      case perm =>
        exact .refl _
      case facts => exact fun _ h => h
      case inv =>
        trivial
  rintro uu hmeet
  show Cont _ _ _ _ [(1, .pointer (some ⟨b1, 0, none⟩)), (23, .bool (decide (¬ Lay.fairB l s defs = true ∨ ¬ Lay.plainB defs l = true)))] ([iCells b1 24 [.slice A l.length c, str s, .int .i64 defs]]) [Sl 4 tokF A l]
  first | refine c_dec rfl (fun h23 => ?_) (fun h23 => ?_) | refine c_cond rfl (fun h23 => ?_) (fun h23 => ?_)
  · skip
    refine c_seq ?_
    refine c_reg ?_
    refine l_q (by decide) (p_assign rfl).q ?_
    refine l_nil ?_
    refine c_ret ?_
    refine c_ret1 rfl rfl (fun w hs => ?_)
    exact ⟨rfl, hs.ext⟩
  · skip
    have hf : Lay.Fair l s defs := Lay.fairB_spec (Classical.byContradiction fun h => h23 (.inl h))
    have hpl : Lay.Plain defs l := Lay.plainB_spec.1 (Classical.byContradiction fun h => h23 (.inr h))
    have hd0 := hf.d0
    have hd1 := hf.d1
    have hll := hf.len
    refine c_skip ?_
    refine c_seq ?_
    refine c_reg ?_
    first | refine l_q (by decide) (p_faddr (i := 0) 0 Try.underlying24 rfl inf_22 (by decide) rfl rfl).q ?_ | refine l_q (by decide) (p_faddro (i := 0) 0 Try.underlying24 rfl inf_22 (by decide) rfl rfl).q ?_
    first | refine l_q (by decide) (r_loado Try.underlying22 rfl rfl (by repeat (first | exact List.Mem.head _ | apply List.Mem.tail)) (by rfl)).q ?_ | refine l_q (by decide) (r_load1 Try.underlying22 rfl rfl (by first | exact .fact (by repeat (first | exact List.Mem.head _ | apply List.Mem.tail)) | exact .own (by repeat (first | exact List.Mem.head _ | apply List.Mem.tail)) (by decide) (fun _ => rfl)) (by first | assumption | rfl) (by rfl)).q ?_ | refine l_q (by decide) (r_loadf Try.underlying22 rfl rfl (by first | exact .fact (by repeat (first | exact List.Mem.head _ | apply List.Mem.tail)) | exact .own (by repeat (first | exact List.Mem.head _ | apply List.Mem.tail)) (by decide) (fun _ => rfl)) (by assumption) (by rfl)).q ?_
    first | refine l_q (by decide) (p_faddr (i := 1) 1 Try.underlying24 rfl inf_9 (by decide) rfl rfl).q ?_ | refine l_q (by decide) (p_faddro (i := 1) 1 Try.underlying24 rfl inf_9 (by decide) rfl rfl).q ?_
    first | refine l_q (by decide) (r_loado Try.underlying9 rfl rfl (by repeat (first | exact List.Mem.head _ | apply List.Mem.tail)) (by rfl)).q ?_ | refine l_q (by decide) (r_load1 Try.underlying9 rfl rfl (by first | exact .fact (by repeat (first | exact List.Mem.head _ | apply List.Mem.tail)) | exact .own (by repeat (first | exact List.Mem.head _ | apply List.Mem.tail)) (by decide) (fun _ => rfl)) (by first | assumption | rfl) (by rfl)).q ?_ | refine l_q (by decide) (r_loadf Try.underlying9 rfl rfl (by first | exact .fact (by repeat (first | exact List.Mem.head _ | apply List.Mem.tail)) | exact .own (by repeat (first | exact List.Mem.head _ | apply List.Mem.tail)) (by decide) (fun _ => rfl)) (by assumption) (by rfl)).q ?_
    first | refine l_q (by decide) (p_faddr (i := 2) 2 Try.underlying24 rfl inf_3 (by decide) rfl rfl).q ?_ | refine l_q (by decide) (p_faddro (i := 2) 2 Try.underlying24 rfl inf_3 (by decide) rfl rfl).q ?_
    first | refine l_q (by decide) (r_loado Try.underlying3 rfl rfl (by repeat (first | exact List.Mem.head _ | apply List.Mem.tail)) (by rfl)).q ?_ | refine l_q (by decide) (r_load1 Try.underlying3 rfl rfl (by first | exact .fact (by repeat (first | exact List.Mem.head _ | apply List.Mem.tail)) | exact .own (by repeat (first | exact List.Mem.head _ | apply List.Mem.tail)) (by decide) (fun _ => rfl)) (by first | assumption | rfl) (by rfl)).q ?_ | refine l_q (by decide) (r_loadf Try.underlying3 rfl rfl (by first | exact .fact (by repeat (first | exact List.Mem.head _ | apply List.Mem.tail)) | exact .own (by repeat (first | exact List.Mem.head _ | apply List.Mem.tail)) (by decide) (fun _ => rfl)) (by assumption) (by rfl)).q ?_
    refine l_call (X := Capd (Lay.app l s defs)) (fun x => .slice x.1.1 (Lay.app l s defs).length x.1.2) (fun x => Sl 4 tokF x.1.1 (Lay.app l s defs)) (by decide) call_13 rfl (fun w hs => apply_ok A c l s defs hf.len (by have := hf.slen; omega) hf.d0 hf.d1 hf.at_ w (hs.facts _ (by repeat (first | exact List.Mem.head _ | apply List.Mem.tail))).1) (fun x30 => ?_)
    refine l_q (by decide) (p_assign rfl).q ?_
    refine l_nil ?_
    refine c_seq ?_
    refine c_reg ?_
    refine l_q (by decide) (p_assign (v := .int .i64 ((0 : Nat) : Int)) rfl).q ?_
    refine l_nil ?_
    refine c_seq ?_
    refine c_seq ?_
    refine c_reg ?_
    refine l_q (by decide) (p_assign (v := .int .i64 ((0 : Nat) : Int)) rfl).q ?_
    refine l_nil ?_
    refine c_block ?_
    refine c_loop (S := Nat) (fun zs => zs ≤ l.length) (fun zs => l.length - zs) (fun zs => [(1, .pointer (some ⟨b1, 0, none⟩)), (3, .slice x30.1.1 (Lay.app l s defs).length x30.1.2), (4, .int .i64 (Lay.pos s defs l zs : Int)), (5, .int .i64 (zs : Int))]) (fun zs => [iCells b1 24 [.slice A l.length c, str s, .int .i64 defs]]) (fun zs => [Sl 4 tokF x30.1.1 (Lay.app l s defs), Sl 4 tokF A l]) (0) ?_ ?_ ?_ ?_ ?_
    · show (0) ≤ l.length
      exact Nat.zero_le _
    · exact ⟨rfl, rfl, (by rw [Lay.pos_zero]; rfl), rfl, trivial⟩
    · exact .refl _
    · simp
    rintro i hinv
    have hinv : i ≤ l.length := hinv
    have hi := hinv
    show Cont _ _ _ _ [(1, .pointer (some ⟨b1, 0, none⟩)), (3, .slice x30.1.1 (Lay.app l s defs).length x30.1.2), (4, .int .i64 (Lay.pos s defs l i : Int)), (5, .int .i64 (i : Int))] ([iCells b1 24 [.slice A l.length c, str s, .int .i64 defs]]) [Sl 4 tokF x30.1.1 (Lay.app l s defs), Sl 4 tokF A l]
    refine c_seq ?_
    refine c_seq ?_
    refine c_reg ?_
    refine l_q (by decide) (p_move rfl).q ?_
    first | refine l_q (by decide) (p_faddr (i := 0) 0 Try.underlying24 rfl inf_22 (by decide) rfl rfl).q ?_ | refine l_q (by decide) (p_faddro (i := 0) 0 Try.underlying24 rfl inf_22 (by decide) rfl rfl).q ?_
    first | refine l_q (by decide) (r_loado Try.underlying22 rfl rfl (by repeat (first | exact List.Mem.head _ | apply List.Mem.tail)) (by rfl)).q ?_ | refine l_q (by decide) (r_load1 Try.underlying22 rfl rfl (by first | exact .fact (by repeat (first | exact List.Mem.head _ | apply List.Mem.tail)) | exact .own (by repeat (first | exact List.Mem.head _ | apply List.Mem.tail)) (by decide) (fun _ => rfl)) (by first | assumption | rfl) (by rfl)).q ?_ | refine l_q (by decide) (r_loadf Try.underlying22 rfl rfl (by first | exact .fact (by repeat (first | exact List.Mem.head _ | apply List.Mem.tail)) | exact .own (by repeat (first | exact List.Mem.head _ | apply List.Mem.tail)) (by decide) (fun _ => rfl)) (by assumption) (by rfl)).q ?_
    refine l_q (by decide) (p_len_sl Try.underlying22 rfl).q ?_
    first | refine l_q (by decide) (p_lss rfl rfl rfl rfl).q ?_ | refine l_q (by decide) (p_lssi rfl rfl).q ?_
    refine l_nil ?_
    first | refine c_dec rfl (fun h35 => ?_) (fun h35 => ?_) | refine c_cond rfl (fun h35 => ?_) (fun h35 => ?_)
    · skip
      obtain ⟨u, hu⟩ := at_some (l := l) (n := i) (by omega)
      have hua := hf.at_ u (List.mem_of_getElem? hu)
      obtain ⟨n, hn⟩ := Int.eq_ofNat_of_zero_le hua.1
      have hun : u.at_.toNat = n := by omega
      have hlt := Lay.app_lt s defs l i u hu
      have hal := app_short hf
      refine c_skip ?_
      refine c_seq ?_
      refine c_block ?_
      refine c_seq ?_
      refine c_reg ?_
      refine l_q (by decide) (p_move rfl).q ?_
      refine l_q (by decide) (p_assign rfl).q ?_
      refine l_nil ?_
      refine c_seq ?_
      refine c_block ?_
      refine c_loop (S := Nat) (fun zs => Lay.pos s defs l i ≤ zs ∧ zs ≤ Lay.pos s defs l i + (Lay.insAt s defs l i u).length) (fun zs => Lay.pos s defs l i + (Lay.insAt s defs l i u).length - zs) (fun zs => [(1, .pointer (some ⟨b1, 0, none⟩)), (3, .slice x30.1.1 (Lay.app l s defs).length x30.1.2), (4, .int .i64 (Lay.pos s defs l i : Int)), (5, .int .i64 (i : Int)), (6, .int .i64 (zs : Int))]) (fun zs => [iCells b1 24 [.slice A l.length c, str s, .int .i64 defs]]) (fun zs => [Sl 4 tokF x30.1.1 (Lay.app l s defs), Sl 4 tokF A l]) (Lay.pos s defs l i) ?_ ?_ ?_ ?_ ?_
      · show Lay.pos s defs l i ≤ (Lay.pos s defs l i) ∧ (Lay.pos s defs l i) ≤ Lay.pos s defs l i + (Lay.insAt s defs l i u).length
        exact ⟨Nat.le_refl _, Nat.le_add_right _ _⟩
      · exact ⟨rfl, rfl, rfl, rfl, rfl, trivial⟩
      · exact .refl _
      · simp
      rintro n1 hinv
      have hinv : Lay.pos s defs l i ≤ n1 ∧ n1 ≤ Lay.pos s defs l i + (Lay.insAt s defs l i u).length := hinv
      obtain ⟨hn1, hn2⟩ := hinv
      show Cont _ _ _ _ [(1, .pointer (some ⟨b1, 0, none⟩)), (3, .slice x30.1.1 (Lay.app l s defs).length x30.1.2), (4, .int .i64 (Lay.pos s defs l i : Int)), (5, .int .i64 (i : Int)), (6, .int .i64 (n1 : Int))] ([iCells b1 24 [.slice A l.length c, str s, .int .i64 defs]]) [Sl 4 tokF x30.1.1 (Lay.app l s defs), Sl 4 tokF A l]
      refine c_seq ?_
      refine c_seq ?_
      refine c_meetn (S := Unit) (fun zs => True) (fun zs => [(1, .pointer (some ⟨b1, 0, none⟩)), (3, .slice x30.1.1 (Lay.app l s defs).length x30.1.2), (4, .int .i64 (Lay.pos s defs l i : Int)), (5, .int .i64 (i : Int)), (6, .int .i64 (n1 : Int)), (52, .bool (decide (n1 < Lay.pos s defs l i + (Lay.insAt s defs l i u).length)))]) (fun zs => [iCells b1 24 [.slice A l.length c, str s, .int .i64 defs]]) (fun zs => [Sl 4 tokF x30.1.1 (Lay.app l s defs), Sl 4 tokF A l]) ?_ ?_
      · skip
        refine c_draw mixed (by decide +kernel) ?_
        refine q_q (by decide) (p_move rfl).q ?_
        refine q_q (by decide) (p_move rfl).q ?_
        refine q_q (by decide) (p_len_sl Try.underlying22 rfl).q ?_
        first | refine q_q (by decide) (p_lss rfl rfl rfl rfl).q ?_ | refine q_q (by decide) (p_lssi rfl rfl).q ?_
        refine q_q (by decide) (p_move rfl).q ?_
        first | refine q_splitd (t := 43) rfl (fun h43 => ?_) (fun h43 => ?_) | refine q_splitb (t := 43) rfl (fun h43 => ?_) (fun h43 => ?_)
        · skip
          obtain ⟨x, hx⟩ := at_some (l := Lay.app l s defs) (n := n1) (by omega)
          have hkx := Lay.sep_kind hpl hu hn1 hn2 hx
          refine q_g (j := 4) rfl rfl (by decide) (p_move rfl).q ?_
          refine q_g (j := 4) rfl rfl (by decide) (p_move rfl).q ?_
          first | refine q_g (j := 4) rfl rfl (by decide) (r_index Try.underlying22 inf_33 rfl rfl rfl (by first | exact .fact (by repeat (first | exact List.Mem.head _ | apply List.Mem.tail)) | exact .own (by repeat (first | exact List.Mem.head _ | apply List.Mem.tail)) (by decide) (fun _ => rfl)) rfl (by omega)).q ?_ | refine q_g (j := 4) rfl rfl (by decide) (r_index Try.underlying22 inf_33 rfl rfl rfl (by first | exact .fact (by repeat (first | exact List.Mem.head _ | apply List.Mem.tail)) | exact .own (by repeat (first | exact List.Mem.head _ | apply List.Mem.tail)) (by decide) (fun _ => rfl)) rfl (by decide)).q ?_ | refine q_g (j := 4) rfl rfl (by decide) (p_indexo Try.underlying22 inf_33 rfl rfl rfl (by omega)).q ?_
          first | refine q_g (j := 4) rfl rfl (by decide) (p_faddr (i := 0) 0 Try.underlying33 rfl inf_3 (by decide) rfl rfl).q ?_ | refine q_g (j := 4) rfl rfl (by decide) (p_faddro (i := 0) 0 Try.underlying33 rfl inf_3 (by decide) rfl rfl).q ?_
          first | refine q_g (j := 4) rfl rfl (by decide) (r_loado Try.underlying3 rfl rfl (by repeat (first | exact List.Mem.head _ | apply List.Mem.tail)) (by rfl)).q ?_ | refine q_g (j := 4) rfl rfl (by decide) (r_load1 Try.underlying3 rfl rfl (by first | exact .fact (by repeat (first | exact List.Mem.head _ | apply List.Mem.tail)) | exact .own (by repeat (first | exact List.Mem.head _ | apply List.Mem.tail)) (by decide) (fun _ => rfl)) (by first | assumption | rfl) (by rfl)).q ?_ | refine q_g (j := 4) rfl rfl (by decide) (r_loadf Try.underlying3 rfl rfl (by first | exact .fact (by repeat (first | exact List.Mem.head _ | apply List.Mem.tail)) | exact .own (by repeat (first | exact List.Mem.head _ | apply List.Mem.tail)) (by decide) (fun _ => rfl)) (by assumption) (by rfl)).q ?_
          first | refine q_g (j := 4) rfl rfl (by decide) (p_faddr (i := 2) 2 Try.underlying24 rfl inf_3 (by decide) rfl rfl).q ?_ | refine q_g (j := 4) rfl rfl (by decide) (p_faddro (i := 2) 2 Try.underlying24 rfl inf_3 (by decide) rfl rfl).q ?_
          first | refine q_g (j := 4) rfl rfl (by decide) (r_loado Try.underlying3 rfl rfl (by repeat (first | exact List.Mem.head _ | apply List.Mem.tail)) (by rfl)).q ?_ | refine q_g (j := 4) rfl rfl (by decide) (r_load1 Try.underlying3 rfl rfl (by first | exact .fact (by repeat (first | exact List.Mem.head _ | apply List.Mem.tail)) | exact .own (by repeat (first | exact List.Mem.head _ | apply List.Mem.tail)) (by decide) (fun _ => rfl)) (by first | assumption | rfl) (by rfl)).q ?_ | refine q_g (j := 4) rfl rfl (by decide) (r_loadf Try.underlying3 rfl rfl (by first | exact .fact (by repeat (first | exact List.Mem.head _ | apply List.Mem.tail)) | exact .own (by repeat (first | exact List.Mem.head _ | apply List.Mem.tail)) (by decide) (fun _ => rfl)) (by assumption) (by rfl)).q ?_
          first | refine q_g (j := 4) rfl rfl (by decide) (p_geq rfl rfl rfl rfl).q ?_ | refine q_g (j := 4) rfl rfl (by decide) (p_geqi rfl rfl).q ?_
          refine q_q (by decide) (p_pick rfl rfl).q ?_
          refine q_nil ?_
          refine c_join (()) ?inv ?sub ?perm ?facts
          case sub => exact ⟨rfl, rfl, rfl, rfl, rfl, (by first | rfl | exact congrArg (fun b => some (Value.bool b)) (decide_eq_true (by omega)).symm | exact congrArg (fun b => some (Value.bool b)) (decide_eq_false (by omega)).symm | exact congrArg (fun b => some (Value.bool b)) (decide_eq_decide.2 (by omega))), trivial⟩
          case perm =>
            exact .refl _
          case facts => exact fun _ h => h
          case inv =>
            trivial
        · skip
          refine q_off (j := 4) rfl rfl (by first | (simp; done) | (simp [undef]; done)) (by decide) ?_
          refine q_off (j := 4) rfl rfl (by first | (simp; done) | (simp [undef]; done)) (by decide) ?_
          refine q_off (j := 4) rfl rfl (by first | (simp; done) | (simp [undef]; done)) (by decide) ?_
          refine q_off (j := 4) rfl rfl (by first | (simp; done) | (simp [undef]; done)) (by decide) ?_
          refine q_off (j := 4) rfl rfl (by first | (simp; done) | (simp [undef]; done)) (by decide) ?_
          refine q_off (j := 4) rfl rfl (by first | (simp; done) | (simp [undef]; done)) (by decide) ?_
          refine q_off (j := 4) rfl rfl (by first | (simp; done) | (simp [undef]; done)) (by decide) ?_
          refine q_off (j := 4) rfl rfl (by first | (simp; done) | (simp [undef]; done)) (by decide) ?_
          refine q_q (by decide) (p_pick rfl rfl).q ?_
          refine q_nil ?_
          refine c_join (()) ?inv ?sub ?perm ?facts
          case sub => exact ⟨rfl, rfl, rfl, rfl, rfl, (by first | rfl | exact congrArg (fun b => some (Value.bool b)) (decide_eq_true (by omega)).symm | exact congrArg (fun b => some (Value.bool b)) (decide_eq_false (by omega)).symm | exact congrArg (fun b => some (Value.bool b)) (decide_eq_decide.2 (by omega))), trivial⟩
          case perm =>
            exact .refl _
          case facts => exact fun _ h => h
          case inv =>
            trivial
      rintro uu hmeet
      show Cont _ _ _ _ [(1, .pointer (some ⟨b1, 0, none⟩)), (3, .slice x30.1.1 (Lay.app l s defs).length x30.1.2), (4, .int .i64 (Lay.pos s defs l i : Int)), (5, .int .i64 (i : Int)), (6, .int .i64 (n1 : Int)), (52, .bool (decide (n1 < Lay.pos s defs l i + (Lay.insAt s defs l i u).length)))] ([iCells b1 24 [.slice A l.length c, str s, .int .i64 defs]]) [Sl 4 tokF x30.1.1 (Lay.app l s defs), Sl 4 tokF A l]
      first | refine c_dec rfl (fun h52 => ?_) (fun h52 => ?_) | refine c_cond rfl (fun h52 => ?_) (fun h52 => ?_)
      · skip
        refine c_skip ?_
        refine c_block ?_
        refine c_reg ?_
        refine l_q (by decide) (p_move rfl).q ?_
        first | refine l_q (by decide) (p_add (j := 1) rfl rfl rfl rfl (by show _ ≤ (9223372036854775807 : Nat); omega)).q ?_ | refine l_q (by decide) (p_addi rfl rfl (by show (-9223372036854775808 : Int) ≤ _; omega) (by show _ ≤ ((9223372036854775807 : Nat) : Int); omega)).q ?_
        refine l_q (by decide) (p_assign rfl).q ?_
        refine l_nil ?_
        refine c_join ((n1 + 1)) ?_ ?_ ?_ ?_
        · show (Lay.pos s defs l i ≤ (n1 + 1) ∧ (n1 + 1) ≤ Lay.pos s defs l i + (Lay.insAt s defs l i u).length) ∧ Lay.pos s defs l i + (Lay.insAt s defs l i u).length - (n1 + 1) < Lay.pos s defs l i + (Lay.insAt s defs l i u).length - n1
          exact ⟨⟨by omega, by omega⟩, by omega⟩
        · exact ⟨rfl, rfl, rfl, rfl, rfl, trivial⟩
        · show List.Perm _ ([iCells b1 24 [.slice A l.length c, str s, .int .i64 defs]])
          exact .refl _
        · exact fun _ h => h
      · skip
        refine c_exit ?_
        refine c_here ?_
        refine c_seq ?_
        refine c_seq ?_
        refine c_reg ?_
        refine l_q (by decide) (p_move rfl).q ?_
        refine l_q (by decide) (p_move rfl).q ?_
        refine l_q (by decide) (p_len_sl Try.underlying22 rfl).q ?_
        first | refine l_q (by decide) (p_eql rfl rfl rfl rfl).q ?_ | refine l_q (by decide) (p_eqli rfl rfl).q ?_
        refine l_nil ?_
        first | refine c_dec rfl (fun h58 => ?_) (fun h58 => ?_) | refine c_cond rfl (fun h58 => ?_) (fun h58 => ?_)
        · skip
          refine c_seq ?_
          refine c_reg ?_
          refine l_q (by decide) (p_assign rfl).q ?_
          refine l_nil ?_
          refine c_ret ?_
          refine c_ret1 rfl rfl (fun w hs => ?_)
          exact absurd h58 (by omega)
        · skip
          refine c_skip ?_
          refine c_seq ?_
          refine c_seq ?_
          refine c_reg ?_
          refine l_q (by decide) (p_move rfl).q ?_
          first | refine l_q (by decide) (p_gtr (j := 0) rfl rfl rfl rfl).q ?_ | refine l_q (by decide) (p_gtri rfl rfl).q ?_
          refine l_nil ?_
          first | refine c_dec rfl (fun h60 => ?_) (fun h60 => ?_) | refine c_cond rfl (fun h60 => ?_) (fun h60 => ?_)
          · skip
            obtain ⟨i0, hi0⟩ : ∃ i0, i = i0 + 1 := ⟨i - 1, by omega⟩
            obtain ⟨u0, hu0⟩ := at_some (l := l) (n := i0) (by omega)
            have hu0b : l[i - 1]? = some u0 := by rw [hi0]; exact hu0
            have hu1 : l[i0 + 1]? = some u := by rw [← hi0]; exact hu
            have hua0 := hf.at_ u0 (List.mem_of_getElem? hu0)
            obtain ⟨m, hm⟩ := Int.eq_ofNat_of_zero_le hua0.1
            have hum : u0.at_.toNat = m := by omega
            have hss := Lay.sep_same (s := s) (defs := defs) (t := u) hu0
            rw [hum, hun, ← hi0] at hss
            have hsame : Lay.start s m = Lay.start s n ↔ n1 = Lay.pos s defs l i := by omega
            refine c_seq ?_
            refine c_draw mixed (by decide +kernel) ?_
            first | refine q_q (by decide) (p_faddr (i := 1) 1 Try.underlying24 rfl inf_9 (by decide) rfl rfl).q ?_ | refine q_q (by decide) (p_faddro (i := 1) 1 Try.underlying24 rfl inf_9 (by decide) rfl rfl).q ?_
            first | refine q_q (by decide) (r_loado Try.underlying9 rfl rfl (by repeat (first | exact List.Mem.head _ | apply List.Mem.tail)) (by rfl)).q ?_ | refine q_q (by decide) (r_load1 Try.underlying9 rfl rfl (by first | exact .fact (by repeat (first | exact List.Mem.head _ | apply List.Mem.tail)) | exact .own (by repeat (first | exact List.Mem.head _ | apply List.Mem.tail)) (by decide) (fun _ => rfl)) (by first | assumption | rfl) (by rfl)).q ?_ | refine q_q (by decide) (r_loadf Try.underlying9 rfl rfl (by first | exact .fact (by repeat (first | exact List.Mem.head _ | apply List.Mem.tail)) | exact .own (by repeat (first | exact List.Mem.head _ | apply List.Mem.tail)) (by decide) (fun _ => rfl)) (by assumption) (by rfl)).q ?_
            first | refine q_q (by decide) (p_faddr (i := 0) 0 Try.underlying24 rfl inf_22 (by decide) rfl rfl).q ?_ | refine q_q (by decide) (p_faddro (i := 0) 0 Try.underlying24 rfl inf_22 (by decide) rfl rfl).q ?_
            first | refine q_q (by decide) (r_loado Try.underlying22 rfl rfl (by repeat (first | exact List.Mem.head _ | apply List.Mem.tail)) (by rfl)).q ?_ | refine q_q (by decide) (r_load1 Try.underlying22 rfl rfl (by first | exact .fact (by repeat (first | exact List.Mem.head _ | apply List.Mem.tail)) | exact .own (by repeat (first | exact List.Mem.head _ | apply List.Mem.tail)) (by decide) (fun _ => rfl)) (by first | assumption | rfl) (by rfl)).q ?_ | refine q_q (by decide) (r_loadf Try.underlying22 rfl rfl (by first | exact .fact (by repeat (first | exact List.Mem.head _ | apply List.Mem.tail)) | exact .own (by repeat (first | exact List.Mem.head _ | apply List.Mem.tail)) (by decide) (fun _ => rfl)) (by assumption) (by rfl)).q ?_
            refine q_q (by decide) (p_move rfl).q ?_
            first | refine q_q (by decide) (p_sub (j := 1) rfl rfl rfl rfl (by omega) (by show _ ≤ (9223372036854775807 : Nat); omega)).q ?_ | refine q_q (by decide) (p_subi rfl rfl (by show (-9223372036854775808 : Int) ≤ _; omega) (by show _ ≤ ((9223372036854775807 : Nat) : Int); omega)).q ?_
            first | refine q_q (by decide) (r_index Try.underlying22 inf_33 rfl rfl rfl (by first | exact .fact (by repeat (first | exact List.Mem.head _ | apply List.Mem.tail)) | exact .own (by repeat (first | exact List.Mem.head _ | apply List.Mem.tail)) (by decide) (fun _ => rfl)) rfl (by omega)).q ?_ | refine q_q (by decide) (r_index Try.underlying22 inf_33 rfl rfl rfl (by first | exact .fact (by repeat (first | exact List.Mem.head _ | apply List.Mem.tail)) | exact .own (by repeat (first | exact List.Mem.head _ | apply List.Mem.tail)) (by decide) (fun _ => rfl)) rfl (by decide)).q ?_ | refine q_q (by decide) (p_indexo Try.underlying22 inf_33 rfl rfl rfl (by omega)).q ?_
            first | refine q_q (by decide) (p_faddr (i := 1) 1 Try.underlying33 rfl inf_3 (by decide) rfl rfl).q ?_ | refine q_q (by decide) (p_faddro (i := 1) 1 Try.underlying33 rfl inf_3 (by decide) rfl rfl).q ?_
            first | refine q_q (by decide) (((r_loado Try.underlying3 rfl rfl (by repeat (first | exact List.Mem.head _ | apply List.Mem.tail)) (by rfl))).to (u := .int .i64 (m : Int)) (by rw [hm])).q ?_ | refine q_q (by decide) (((r_load1 Try.underlying3 rfl rfl (by first | exact .fact (by repeat (first | exact List.Mem.head _ | apply List.Mem.tail)) | exact .own (by repeat (first | exact List.Mem.head _ | apply List.Mem.tail)) (by decide) (fun _ => rfl)) (by first | assumption | rfl) (by rfl))).to (u := .int .i64 (m : Int)) (by rw [hm])).q ?_ | refine q_q (by decide) (((r_loadf Try.underlying3 rfl rfl (by first | exact .fact (by repeat (first | exact List.Mem.head _ | apply List.Mem.tail)) | exact .own (by repeat (first | exact List.Mem.head _ | apply List.Mem.tail)) (by decide) (fun _ => rfl)) (by assumption) (by rfl))).to (u := .int .i64 (m : Int)) (by rw [hm])).q ?_
            refine q_q (by decide) (q_call call_20 rfl (fun w hs => start_ok s m (by omega) (by have := hf.slen; omega) w)) ?_
            first | refine q_q (by decide) (p_faddr (i := 1) 1 Try.underlying24 rfl inf_9 (by decide) rfl rfl).q ?_ | refine q_q (by decide) (p_faddro (i := 1) 1 Try.underlying24 rfl inf_9 (by decide) rfl rfl).q ?_
            first | refine q_q (by decide) (r_loado Try.underlying9 rfl rfl (by repeat (first | exact List.Mem.head _ | apply List.Mem.tail)) (by rfl)).q ?_ | refine q_q (by decide) (r_load1 Try.underlying9 rfl rfl (by first | exact .fact (by repeat (first | exact List.Mem.head _ | apply List.Mem.tail)) | exact .own (by repeat (first | exact List.Mem.head _ | apply List.Mem.tail)) (by decide) (fun _ => rfl)) (by first | assumption | rfl) (by rfl)).q ?_ | refine q_q (by decide) (r_loadf Try.underlying9 rfl rfl (by first | exact .fact (by repeat (first | exact List.Mem.head _ | apply List.Mem.tail)) | exact .own (by repeat (first | exact List.Mem.head _ | apply List.Mem.tail)) (by decide) (fun _ => rfl)) (by assumption) (by rfl)).q ?_
            first | refine q_q (by decide) (p_faddr (i := 0) 0 Try.underlying24 rfl inf_22 (by decide) rfl rfl).q ?_ | refine q_q (by decide) (p_faddro (i := 0) 0 Try.underlying24 rfl inf_22 (by decide) rfl rfl).q ?_
            first | refine q_q (by decide) (r_loado Try.underlying22 rfl rfl (by repeat (first | exact List.Mem.head _ | apply List.Mem.tail)) (by rfl)).q ?_ | refine q_q (by decide) (r_load1 Try.underlying22 rfl rfl (by first | exact .fact (by repeat (first | exact List.Mem.head _ | apply List.Mem.tail)) | exact .own (by repeat (first | exact List.Mem.head _ | apply List.Mem.tail)) (by decide) (fun _ => rfl)) (by first | assumption | rfl) (by rfl)).q ?_ | refine q_q (by decide) (r_loadf Try.underlying22 rfl rfl (by first | exact .fact (by repeat (first | exact List.Mem.head _ | apply List.Mem.tail)) | exact .own (by repeat (first | exact List.Mem.head _ | apply List.Mem.tail)) (by decide) (fun _ => rfl)) (by assumption) (by rfl)).q ?_
            refine q_q (by decide) (p_move rfl).q ?_
            first | refine q_q (by decide) (r_index Try.underlying22 inf_33 rfl rfl rfl (by first | exact .fact (by repeat (first | exact List.Mem.head _ | apply List.Mem.tail)) | exact .own (by repeat (first | exact List.Mem.head _ | apply List.Mem.tail)) (by decide) (fun _ => rfl)) rfl (by omega)).q ?_ | refine q_q (by decide) (r_index Try.underlying22 inf_33 rfl rfl rfl (by first | exact .fact (by repeat (first | exact List.Mem.head _ | apply List.Mem.tail)) | exact .own (by repeat (first | exact List.Mem.head _ | apply List.Mem.tail)) (by decide) (fun _ => rfl)) rfl (by decide)).q ?_ | refine q_q (by decide) (p_indexo Try.underlying22 inf_33 rfl rfl rfl (by omega)).q ?_
            first | refine q_q (by decide) (p_faddr (i := 1) 1 Try.underlying33 rfl inf_3 (by decide) rfl rfl).q ?_ | refine q_q (by decide) (p_faddro (i := 1) 1 Try.underlying33 rfl inf_3 (by decide) rfl rfl).q ?_
            first | refine q_q (by decide) (((r_loado Try.underlying3 rfl rfl (by repeat (first | exact List.Mem.head _ | apply List.Mem.tail)) (by rfl))).to (u := .int .i64 (n : Int)) (by rw [hn])).q ?_ | refine q_q (by decide) (((r_load1 Try.underlying3 rfl rfl (by first | exact .fact (by repeat (first | exact List.Mem.head _ | apply List.Mem.tail)) | exact .own (by repeat (first | exact List.Mem.head _ | apply List.Mem.tail)) (by decide) (fun _ => rfl)) (by first | assumption | rfl) (by rfl))).to (u := .int .i64 (n : Int)) (by rw [hn])).q ?_ | refine q_q (by decide) (((r_loadf Try.underlying3 rfl rfl (by first | exact .fact (by repeat (first | exact List.Mem.head _ | apply List.Mem.tail)) | exact .own (by repeat (first | exact List.Mem.head _ | apply List.Mem.tail)) (by decide) (fun _ => rfl)) (by assumption) (by rfl))).to (u := .int .i64 (n : Int)) (by rw [hn])).q ?_
            refine q_q (by decide) (q_call call_20 rfl (fun w hs => start_ok s n (by omega) (by have := hf.slen; omega) w)) ?_
            first | refine q_q (by decide) (p_eql rfl rfl rfl rfl).q ?_ | refine q_q (by decide) (p_eqli rfl rfl).q ?_
            refine q_q (by decide) (p_assign rfl).q ?_
            refine q_nil ?_
            refine c_seq ?_
            refine c_seq ?_
            refine c_reg ?_
            refine l_q (by decide) (p_move rfl).q ?_
            refine l_q (by decide) (p_move rfl).q ?_
            refine l_q (by decide) (p_move rfl).q ?_
            first | refine l_q (by decide) (p_eql rfl rfl rfl rfl).q ?_ | refine l_q (by decide) (p_eqli rfl rfl).q ?_
            refine l_q (by decide) (((p_neqb Try.underlying4 rfl rfl)).to (u := .bool false) (by rw [show decide (Lay.start s m = Lay.start s n) = decide (n1 = Lay.pos s defs l i) from decide_eq_decide.2 hsame]; simp)).q ?_
            refine l_nil ?_
            refine c_false rfl ?_
            refine c_skip ?_
            refine c_seq ?_
            refine c_reg ?_
            refine l_q (by decide) (p_move rfl).q ?_
            refine l_q (by decide) (p_assign rfl).q ?_
            refine l_nil ?_
            refine c_block ?_
            refine c_loop (S := Nat) (fun zs => Lay.pos s defs l i ≤ zs ∧ zs ≤ n1) (fun zs => n1 - zs) (fun zs => [(1, .pointer (some ⟨b1, 0, none⟩)), (3, .slice x30.1.1 (Lay.app l s defs).length x30.1.2), (4, .int .i64 (Lay.pos s defs l i : Int)), (5, .int .i64 (i : Int)), (6, .int .i64 (n1 : Int)), (8, .int .i64 (zs : Int))]) (fun zs => [iCells b1 24 [.slice A l.length c, str s, .int .i64 defs]]) (fun zs => [Sl 4 tokF x30.1.1 (Lay.app l s defs), Sl 4 tokF A l]) (Lay.pos s defs l i) ?_ ?_ ?_ ?_ ?_
            · show Lay.pos s defs l i ≤ (Lay.pos s defs l i) ∧ (Lay.pos s defs l i) ≤ n1
              exact ⟨Nat.le_refl _, by omega⟩
            · exact ⟨rfl, rfl, rfl, rfl, rfl, rfl, trivial⟩
            · exact .refl _
            · simp
            rintro k hinv
            have hinv : Lay.pos s defs l i ≤ k ∧ k ≤ n1 := hinv
            obtain ⟨hk1, hk2⟩ := hinv
            show Cont _ _ _ _ [(1, .pointer (some ⟨b1, 0, none⟩)), (3, .slice x30.1.1 (Lay.app l s defs).length x30.1.2), (4, .int .i64 (Lay.pos s defs l i : Int)), (5, .int .i64 (i : Int)), (6, .int .i64 (n1 : Int)), (8, .int .i64 (k : Int))] ([iCells b1 24 [.slice A l.length c, str s, .int .i64 defs]]) [Sl 4 tokF x30.1.1 (Lay.app l s defs), Sl 4 tokF A l]
            refine c_seq ?_
            refine c_seq ?_
            refine c_reg ?_
            refine l_q (by decide) (p_move rfl).q ?_
            refine l_q (by decide) (p_move rfl).q ?_
            first | refine l_q (by decide) (p_lss rfl rfl rfl rfl).q ?_ | refine l_q (by decide) (p_lssi rfl rfl).q ?_
            refine l_nil ?_
            first | refine c_dec rfl (fun h89 => ?_) (fun h89 => ?_) | refine c_cond rfl (fun h89 => ?_) (fun h89 => ?_)
            · skip
              obtain ⟨y, hy0⟩ := at_some (l := Lay.app l s defs) (n := k) (by omega)
              have hy : (y.kind = defs + 2 ↔ Lay.pos s defs l i < k) ∧ y.at_ = u.at_ := by
                have h1 := Lay.sep_mid (s := s) (defs := defs) (n := k) (y := y) hu0 hu1 hua.1 (by rw [← hi0]; exact hk1) (by rw [← hi0]; omega) hy0
                rw [← hi0] at h1; exact h1
              refine c_skip ?_
              refine c_seq ?_
              refine c_block ?_
              refine c_seq ?_
              refine c_draw mixed (by decide +kernel) ?_
              refine q_q (by decide) (p_move rfl).q ?_
              refine q_q (by decide) (p_move rfl).q ?_
              first | refine q_q (by decide) (r_index Try.underlying22 inf_33 rfl rfl rfl (by first | exact .fact (by repeat (first | exact List.Mem.head _ | apply List.Mem.tail)) | exact .own (by repeat (first | exact List.Mem.head _ | apply List.Mem.tail)) (by decide) (fun _ => rfl)) rfl (by omega)).q ?_ | refine q_q (by decide) (r_index Try.underlying22 inf_33 rfl rfl rfl (by first | exact .fact (by repeat (first | exact List.Mem.head _ | apply List.Mem.tail)) | exact .own (by repeat (first | exact List.Mem.head _ | apply List.Mem.tail)) (by decide) (fun _ => rfl)) rfl (by decide)).q ?_ | refine q_q (by decide) (p_indexo Try.underlying22 inf_33 rfl rfl rfl (by omega)).q ?_
              first | refine q_q (by decide) (p_faddr (i := 0) 0 Try.underlying33 rfl inf_3 (by decide) rfl rfl).q ?_ | refine q_q (by decide) (p_faddro (i := 0) 0 Try.underlying33 rfl inf_3 (by decide) rfl rfl).q ?_
              first | refine q_q (by decide) (r_loado Try.underlying3 rfl rfl (by repeat (first | exact List.Mem.head _ | apply List.Mem.tail)) (by rfl)).q ?_ | refine q_q (by decide) (r_load1 Try.underlying3 rfl rfl (by first | exact .fact (by repeat (first | exact List.Mem.head _ | apply List.Mem.tail)) | exact .own (by repeat (first | exact List.Mem.head _ | apply List.Mem.tail)) (by decide) (fun _ => rfl)) (by first | assumption | rfl) (by rfl)).q ?_ | refine q_q (by decide) (r_loadf Try.underlying3 rfl rfl (by first | exact .fact (by repeat (first | exact List.Mem.head _ | apply List.Mem.tail)) | exact .own (by repeat (first | exact List.Mem.head _ | apply List.Mem.tail)) (by decide) (fun _ => rfl)) (by assumption) (by rfl)).q ?_
              first | refine q_q (by decide) (p_faddr (i := 2) 2 Try.underlying24 rfl inf_3 (by decide) rfl rfl).q ?_ | refine q_q (by decide) (p_faddro (i := 2) 2 Try.underlying24 rfl inf_3 (by decide) rfl rfl).q ?_
              first | refine q_q (by decide) (r_loado Try.underlying3 rfl rfl (by repeat (first | exact List.Mem.head _ | apply List.Mem.tail)) (by rfl)).q ?_ | refine q_q (by decide) (r_load1 Try.underlying3 rfl rfl (by first | exact .fact (by repeat (first | exact List.Mem.head _ | apply List.Mem.tail)) | exact .own (by repeat (first | exact List.Mem.head _ | apply List.Mem.tail)) (by decide) (fun _ => rfl)) (by first | assumption | rfl) (by rfl)).q ?_ | refine q_q (by decide) (r_loadf Try.underlying3 rfl rfl (by first | exact .fact (by repeat (first | exact List.Mem.head _ | apply List.Mem.tail)) | exact .own (by repeat (first | exact List.Mem.head _ | apply List.Mem.tail)) (by decide) (fun _ => rfl)) (by assumption) (by rfl)).q ?_
              first | refine q_q (by decide) (p_add (j := 2) rfl rfl rfl rfl (by show _ ≤ (9223372036854775807 : Nat); omega)).q ?_ | refine q_q (by decide) (p_addi rfl rfl (by show (-9223372036854775808 : Int) ≤ _; omega) (by show _ ≤ ((9223372036854775807 : Nat) : Int); omega)).q ?_
              first | refine q_q (by decide) (p_eql rfl rfl rfl rfl).q ?_ | refine q_q (by decide) (p_eqli rfl rfl).q ?_
              refine q_q (by decide) (p_move rfl).q ?_
              refine q_q (by decide) (p_move rfl).q ?_
              first | refine q_q (by decide) (p_gtr rfl rfl rfl rfl).q ?_ | refine q_q (by decide) (p_gtri rfl rfl).q ?_
              refine q_q (by decide) (((p_neqb Try.underlying4 rfl rfl)).to (u := .bool false) (by rw [show decide (y.kind = defs + 2) = decide (Lay.pos s defs l i < k) from decide_eq_decide.2 hy.1]; simp)).q ?_
              refine q_q (by decide) (p_move rfl).q ?_
              refine q_g (j := 13) rfl rfl (by decide) (p_move rfl).q ?_
              refine q_g (j := 13) rfl rfl (by decide) (p_move rfl).q ?_
              first | refine q_g (j := 13) rfl rfl (by decide) (r_index Try.underlying22 inf_33 rfl rfl rfl (by first | exact .fact (by repeat (first | exact List.Mem.head _ | apply List.Mem.tail)) | exact .own (by repeat (first | exact List.Mem.head _ | apply List.Mem.tail)) (by decide) (fun _ => rfl)) rfl (by omega)).q ?_ | refine q_g (j := 13) rfl rfl (by decide) (r_index Try.underlying22 inf_33 rfl rfl rfl (by first | exact .fact (by repeat (first | exact List.Mem.head _ | apply List.Mem.tail)) | exact .own (by repeat (first | exact List.Mem.head _ | apply List.Mem.tail)) (by decide) (fun _ => rfl)) rfl (by decide)).q ?_ | refine q_g (j := 13) rfl rfl (by decide) (p_indexo Try.underlying22 inf_33 rfl rfl rfl (by omega)).q ?_
              first | refine q_g (j := 13) rfl rfl (by decide) (p_faddr (i := 1) 1 Try.underlying33 rfl inf_3 (by decide) rfl rfl).q ?_ | refine q_g (j := 13) rfl rfl (by decide) (p_faddro (i := 1) 1 Try.underlying33 rfl inf_3 (by decide) rfl rfl).q ?_
              first | refine q_g (j := 13) rfl rfl (by decide) (r_loado Try.underlying3 rfl rfl (by repeat (first | exact List.Mem.head _ | apply List.Mem.tail)) (by rfl)).q ?_ | refine q_g (j := 13) rfl rfl (by decide) (r_load1 Try.underlying3 rfl rfl (by first | exact .fact (by repeat (first | exact List.Mem.head _ | apply List.Mem.tail)) | exact .own (by repeat (first | exact List.Mem.head _ | apply List.Mem.tail)) (by decide) (fun _ => rfl)) (by first | assumption | rfl) (by rfl)).q ?_ | refine q_g (j := 13) rfl rfl (by decide) (r_loadf Try.underlying3 rfl rfl (by first | exact .fact (by repeat (first | exact List.Mem.head _ | apply List.Mem.tail)) | exact .own (by repeat (first | exact List.Mem.head _ | apply List.Mem.tail)) (by decide) (fun _ => rfl)) (by assumption) (by rfl)).q ?_
              first | refine q_g (j := 13) rfl rfl (by decide) (p_faddr (i := 0) 0 Try.underlying24 rfl inf_22 (by decide) rfl rfl).q ?_ | refine q_g (j := 13) rfl rfl (by decide) (p_faddro (i := 0) 0 Try.underlying24 rfl inf_22 (by decide) rfl rfl).q ?_
              first | refine q_g (j := 13) rfl rfl (by decide) (r_loado Try.underlying22 rfl rfl (by repeat (first | exact List.Mem.head _ | apply List.Mem.tail)) (by rfl)).q ?_ | refine q_g (j := 13) rfl rfl (by decide) (r_load1 Try.underlying22 rfl rfl (by first | exact .fact (by repeat (first | exact List.Mem.head _ | apply List.Mem.tail)) | exact .own (by repeat (first | exact List.Mem.head _ | apply List.Mem.tail)) (by decide) (fun _ => rfl)) (by first | assumption | rfl) (by rfl)).q ?_ | refine q_g (j := 13) rfl rfl (by decide) (r_loadf Try.underlying22 rfl rfl (by first | exact .fact (by repeat (first | exact List.Mem.head _ | apply List.Mem.tail)) | exact .own (by repeat (first | exact List.Mem.head _ | apply List.Mem.tail)) (by decide) (fun _ => rfl)) (by assumption) (by rfl)).q ?_
              refine q_g (j := 13) rfl rfl (by decide) (p_move rfl).q ?_
              first | refine q_g (j := 13) rfl rfl (by decide) (r_index Try.underlying22 inf_33 rfl rfl rfl (by first | exact .fact (by repeat (first | exact List.Mem.head _ | apply List.Mem.tail)) | exact .own (by repeat (first | exact List.Mem.head _ | apply List.Mem.tail)) (by decide) (fun _ => rfl)) rfl (by omega)).q ?_ | refine q_g (j := 13) rfl rfl (by decide) (r_index Try.underlying22 inf_33 rfl rfl rfl (by first | exact .fact (by repeat (first | exact List.Mem.head _ | apply List.Mem.tail)) | exact .own (by repeat (first | exact List.Mem.head _ | apply List.Mem.tail)) (by decide) (fun _ => rfl)) rfl (by decide)).q ?_ | refine q_g (j := 13) rfl rfl (by decide) (p_indexo Try.underlying22 inf_33 rfl rfl rfl (by omega)).q ?_
              first | refine q_g (j := 13) rfl rfl (by decide) (p_faddr (i := 1) 1 Try.underlying33 rfl inf_3 (by decide) rfl rfl).q ?_ | refine q_g (j := 13) rfl rfl (by decide) (p_faddro (i := 1) 1 Try.underlying33 rfl inf_3 (by decide) rfl rfl).q ?_
              first | refine q_g (j := 13) rfl rfl (by decide) (r_loado Try.underlying3 rfl rfl (by repeat (first | exact List.Mem.head _ | apply List.Mem.tail)) (by rfl)).q ?_ | refine q_g (j := 13) rfl rfl (by decide) (r_load1 Try.underlying3 rfl rfl (by first | exact .fact (by repeat (first | exact List.Mem.head _ | apply List.Mem.tail)) | exact .own (by repeat (first | exact List.Mem.head _ | apply List.Mem.tail)) (by decide) (fun _ => rfl)) (by first | assumption | rfl) (by rfl)).q ?_ | refine q_g (j := 13) rfl rfl (by decide) (r_loadf Try.underlying3 rfl rfl (by first | exact .fact (by repeat (first | exact List.Mem.head _ | apply List.Mem.tail)) | exact .own (by repeat (first | exact List.Mem.head _ | apply List.Mem.tail)) (by decide) (fun _ => rfl)) (by assumption) (by rfl)).q ?_
              first | refine q_g (j := 13) rfl rfl (by decide) (((p_neq rfl rfl rfl rfl)).to (u := .bool false) (by rw [decide_eq_false (fun h => h hy.2)])).q ?_ | refine q_g (j := 13) rfl rfl (by decide) (((p_neqi rfl rfl)).to (u := .bool false) (by rw [decide_eq_false (fun h => h hy.2)])).q ?_
              refine q_q (by decide) (p_pick rfl rfl).q ?_
              refine q_nil ?_
              refine c_false rfl ?_
              refine c_skip ?_
              refine c_reg ?_
              refine l_q (by decide) (p_move rfl).q ?_
              first | refine l_q (by decide) (p_add (j := 1) rfl rfl rfl rfl (by show _ ≤ (9223372036854775807 : Nat); omega)).q ?_ | refine l_q (by decide) (p_addi rfl rfl (by show (-9223372036854775808 : Int) ≤ _; omega) (by show _ ≤ ((9223372036854775807 : Nat) : Int); omega)).q ?_
              refine l_q (by decide) (p_assign rfl).q ?_
              refine l_nil ?_
              refine c_join ((k + 1)) ?_ ?_ ?_ ?_
              · show (Lay.pos s defs l i ≤ (k + 1) ∧ (k + 1) ≤ n1) ∧ n1 - (k + 1) < n1 - k
                exact ⟨⟨by omega, by omega⟩, by omega⟩
              · exact ⟨rfl, rfl, rfl, rfl, rfl, rfl, trivial⟩
              · show List.Perm _ ([iCells b1 24 [.slice A l.length c, str s, .int .i64 defs]])
                exact .refl _
              · exact fun _ h => h
            · skip
              refine c_exit ?_
              refine c_here ?_
              refine c_reg ?_
              refine l_q (by decide) (p_move rfl).q ?_
              first | refine l_q (by decide) (p_add (j := 1) rfl rfl rfl rfl (by show _ ≤ (9223372036854775807 : Nat); omega)).q ?_ | refine l_q (by decide) (p_addi rfl rfl (by show (-9223372036854775808 : Int) ≤ _; omega) (by show _ ≤ ((9223372036854775807 : Nat) : Int); omega)).q ?_
              refine l_q (by decide) (p_assign rfl).q ?_
              refine l_nil ?_
              refine c_reg ?_
              refine l_q (by decide) (p_move rfl).q ?_
              first | refine l_q (by decide) (p_add (j := 1) rfl rfl rfl rfl (by show _ ≤ (9223372036854775807 : Nat); omega)).q ?_ | refine l_q (by decide) (p_addi rfl rfl (by show (-9223372036854775808 : Int) ≤ _; omega) (by show _ ≤ ((9223372036854775807 : Nat) : Int); omega)).q ?_
              refine l_q (by decide) (p_assign rfl).q ?_
              refine l_nil ?_
              refine c_join ((i + 1)) ?_ ?_ ?_ ?_
              · show ((i + 1) ≤ l.length) ∧ l.length - (i + 1) < l.length - i
                exact ⟨by omega, by omega⟩
              · exact ⟨rfl, rfl, (by rw [hlt.2, show Lay.pos s defs l i + (Lay.insAt s defs l i u).length = n1 by omega]; rfl), rfl, trivial⟩
              · show List.Perm _ ([iCells b1 24 [.slice A l.length c, str s, .int .i64 defs]])
                exact .refl _
              · exact fun _ h => h
          · skip
            refine c_skip ?_
            refine c_reg ?_
            refine l_q (by decide) (p_move rfl).q ?_
            first | refine l_q (by decide) (p_add (j := 1) rfl rfl rfl rfl (by show _ ≤ (9223372036854775807 : Nat); omega)).q ?_ | refine l_q (by decide) (p_addi rfl rfl (by show (-9223372036854775808 : Int) ≤ _; omega) (by show _ ≤ ((9223372036854775807 : Nat) : Int); omega)).q ?_
            refine l_q (by decide) (p_assign rfl).q ?_
            refine l_nil ?_
            refine c_reg ?_
            refine l_q (by decide) (p_move rfl).q ?_
            first | refine l_q (by decide) (p_add (j := 1) rfl rfl rfl rfl (by show _ ≤ (9223372036854775807 : Nat); omega)).q ?_ | refine l_q (by decide) (p_addi rfl rfl (by show (-9223372036854775808 : Int) ≤ _; omega) (by show _ ≤ ((9223372036854775807 : Nat) : Int); omega)).q ?_
            refine l_q (by decide) (p_assign rfl).q ?_
            refine l_nil ?_
            refine c_join ((i + 1)) ?_ ?_ ?_ ?_
            · show ((i + 1) ≤ l.length) ∧ l.length - (i + 1) < l.length - i
              exact ⟨by omega, by omega⟩
            · exact ⟨rfl, rfl, (by rw [hlt.2, show Lay.pos s defs l i + (Lay.insAt s defs l i u).length = n1 by omega]; rfl), rfl, trivial⟩
            · show List.Perm _ ([iCells b1 24 [.slice A l.length c, str s, .int .i64 defs]])
              exact .refl _
            · exact fun _ h => h
    · skip
      refine c_exit ?_
      refine c_here ?_
      refine c_seq ?_
      refine c_reg ?_
      refine l_q (by decide) (p_assign rfl).q ?_
      refine l_nil ?_
      refine c_ret ?_
      refine c_ret1 rfl rfl (fun w hs => ?_)
      exact ⟨rfl, hs.ext⟩

theorem prefix_law (A : Option Addr) (c : Nat) (l : List Lay.T) (s : List UInt8) (defs : Int) (hcap : l.length ≤ c) (b : UInt8) (hl : l.length ≤ 140737488351232) (hsl : s.length ≤ 140737488351232) (hk : ∀ t, t ∈ l → -9223372036854775808 ≤ t.kind ∧ t.kind ≤ 9223372036854775807) (w : World) (hq : Sl 4 tokF A l w) :
    Calls Try.prog 9 #[.agg #[.slice A l.length c, str s, .int .i64 defs], .int .u8 (b.toNat : Int)] w (Ret fun v w' => v = .bool true ∧ Ext [] w w') := by
  refine calls_fx (l := [.agg #[.slice A l.length c, str s, .int .i64 defs], .int .u8 (b.toNat : Int)]) Try.func9 rfl Try.ntmps9 (Nat.le_of_ble_eq_true rfl) ((St.start w).old hq (dep_sl (by decide) hq)) ?_
  refine c_seq ?_
  refine c_reg ?_
  refine l_box (by decide) rfl _ rfl (fun b2 => ?_)
  refine l_q (by decide) (p_assign rfl).q ?_
  refine l_nil ?_
  refine c_seq ?_
  refine c_seq ?_
  refine c_reg ?_
  refine l_q (by decide) (q_call call_10 rfl (fun w hs => awake_ok w)) ?_
  refine l_q (by decide) (p_not rfl).q ?_
  refine l_nil ?_
  refine c_false rfl ?_
  refine c_skip ?_
  refine c_seq ?_
  refine c_seq ?_
  refine c_meetn (S := Unit) (fun zs => True) (fun zs => [(1, .int .u8 (b.toNat : Int)), (2, .pointer (some ⟨b2, 0, none⟩)), (30, .bool (decide (¬ Lay.fairB l s defs = true ∨ l.length = 0 ∨ ¬ Lay.plainB defs l = true)))]) (fun zs => [iCells b2 24 [.slice A l.length c, str s, .int .i64 defs]]) (fun zs => [Sl 4 tokF A l]) ?_ ?_
  · skip
    refine c_reg ?_
    first | refine l_q (by decide) (p_faddr (i := 0) 0 Try.underlying24 rfl inf_22 (by decide) rfl rfl).q ?_ | refine l_q (by decide) (p_faddro (i := 0) 0 Try.underlying24 rfl inf_22 (by decide) rfl rfl).q ?_
    first | refine l_q (by decide) (r_loado Try.underlying22 rfl rfl (by repeat (first | exact List.Mem.head _ | apply List.Mem.tail)) (by rfl)).q ?_ | refine l_q (by decide) (r_load1 Try.underlying22 rfl rfl (by first | exact .fact (by repeat (first | exact List.Mem.head _ | apply List.Mem.tail)) | exact .own (by repeat (first | exact List.Mem.head _ | apply List.Mem.tail)) (by decide) (fun _ => rfl)) (by first | assumption | rfl) (by rfl)).q ?_ | refine l_q (by decide) (r_loadf Try.underlying22 rfl rfl (by first | exact .fact (by repeat (first | exact List.Mem.head _ | apply List.Mem.tail)) | exact .own (by repeat (first | exact List.Mem.head _ | apply List.Mem.tail)) (by decide) (fun _ => rfl)) (by assumption) (by rfl)).q ?_
    first | refine l_q (by decide) (p_faddr (i := 1) 1 Try.underlying24 rfl inf_9 (by decide) rfl rfl).q ?_ | refine l_q (by decide) (p_faddro (i := 1) 1 Try.underlying24 rfl inf_9 (by decide) rfl rfl).q ?_
    first | refine l_q (by decide) (r_loado Try.underlying9 rfl rfl (by repeat (first | exact List.Mem.head _ | apply List.Mem.tail)) (by rfl)).q ?_ | refine l_q (by decide) (r_load1 Try.underlying9 rfl rfl (by first | exact .fact (by repeat (first | exact List.Mem.head _ | apply List.Mem.tail)) | exact .own (by repeat (first | exact List.Mem.head _ | apply List.Mem.tail)) (by decide) (fun _ => rfl)) (by first | assumption | rfl) (by rfl)).q ?_ | refine l_q (by decide) (r_loadf Try.underlying9 rfl rfl (by first | exact .fact (by repeat (first | exact List.Mem.head _ | apply List.Mem.tail)) | exact .own (by repeat (first | exact List.Mem.head _ | apply List.Mem.tail)) (by decide) (fun _ => rfl)) (by assumption) (by rfl)).q ?_
    first | refine l_q (by decide) (p_faddr (i := 2) 2 Try.underlying24 rfl inf_3 (by decide) rfl rfl).q ?_ | refine l_q (by decide) (p_faddro (i := 2) 2 Try.underlying24 rfl inf_3 (by decide) rfl rfl).q ?_
    first | refine l_q (by decide) (r_loado Try.underlying3 rfl rfl (by repeat (first | exact List.Mem.head _ | apply List.Mem.tail)) (by rfl)).q ?_ | refine l_q (by decide) (r_load1 Try.underlying3 rfl rfl (by first | exact .fact (by repeat (first | exact List.Mem.head _ | apply List.Mem.tail)) | exact .own (by repeat (first | exact List.Mem.head _ | apply List.Mem.tail)) (by decide) (fun _ => rfl)) (by first | assumption | rfl) (by rfl)).q ?_ | refine l_q (by decide) (r_loadf Try.underlying3 rfl rfl (by first | exact .fact (by repeat (first | exact List.Mem.head _ | apply List.Mem.tail)) | exact .own (by repeat (first | exact List.Mem.head _ | apply List.Mem.tail)) (by decide) (fun _ => rfl)) (by assumption) (by rfl)).q ?_
    refine l_q (by decide) (q_call call_11 rfl (fun w hs => fair_ok A c l s defs hl hsl w (hs.facts _ (by repeat (first | exact List.Mem.head _ | apply List.Mem.tail))).1)) ?_
    first | refine l_q (by decide) (p_notd rfl).q ?_ | refine l_q (by decide) (p_not rfl).q ?_
    refine l_q (by decide) (p_move rfl).q ?_
    first | refine l_splitd (t := 20) rfl (fun h20 => ?_) (fun h20 => ?_) | refine l_splitb (t := 20) rfl (fun h20 => ?_) (fun h20 => ?_)
    · skip
      refine l_off (j := 8) rfl rfl (by first | (simp; done) | (simp [undef]; done)) (by decide) ?_
      refine l_off (j := 8) rfl rfl (by first | (simp; done) | (simp [undef]; done)) (by decide) ?_
      refine l_off (j := 8) rfl rfl (by first | (simp; done) | (simp [undef]; done)) (by decide) ?_
      refine l_off (j := 8) rfl rfl (by first | (simp; done) | (simp [undef]; done)) (by decide) ?_
      refine l_q (by decide) (p_pick rfl rfl).q ?_
      refine l_q (by decide) (p_move rfl).q ?_
      refine l_off (j := 14) rfl rfl (by first | (simp; done) | (simp [undef]; done)) (by decide) ?_
      refine l_off (j := 14) rfl rfl (by first | (simp; done) | (simp [undef]; done)) (by decide) ?_
      refine l_off (j := 14) rfl rfl (by first | (simp; done) | (simp [undef]; done)) (by decide) ?_
      refine l_q (by decide) (p_pick rfl rfl).q ?_
      refine l_nil ?_
      refine c_join (()) ?inv ?sub ?perm ?facts
      case sub => exact ⟨rfl, rfl, (boolp (.inl (by simpa using h20))), trivial⟩
      case perm =>
        exact .refl _
      case facts => exact fun _ h => h
      case inv =>
        trivial
    · skip
      have hf0 := Lay.fairB_spec (show Lay.fairB l s defs = true by simpa using h20)
      first | refine l_g (j := 8) rfl rfl (by decide) (p_faddr (i := 0) 0 Try.underlying24 rfl inf_22 (by decide) rfl rfl).q ?_ | refine l_g (j := 8) rfl rfl (by decide) (p_faddro (i := 0) 0 Try.underlying24 rfl inf_22 (by decide) rfl rfl).q ?_
      first | refine l_g (j := 8) rfl rfl (by decide) (r_loado Try.underlying22 rfl rfl (by repeat (first | exact List.Mem.head _ | apply List.Mem.tail)) (by rfl)).q ?_ | refine l_g (j := 8) rfl rfl (by decide) (r_load1 Try.underlying22 rfl rfl (by first | exact .fact (by repeat (first | exact List.Mem.head _ | apply List.Mem.tail)) | exact .own (by repeat (first | exact List.Mem.head _ | apply List.Mem.tail)) (by decide) (fun _ => rfl)) (by first | assumption | rfl) (by rfl)).q ?_ | refine l_g (j := 8) rfl rfl (by decide) (r_loadf Try.underlying22 rfl rfl (by first | exact .fact (by repeat (first | exact List.Mem.head _ | apply List.Mem.tail)) | exact .own (by repeat (first | exact List.Mem.head _ | apply List.Mem.tail)) (by decide) (fun _ => rfl)) (by assumption) (by rfl)).q ?_
      refine l_g (j := 8) rfl rfl (by decide) (p_len_sl Try.underlying22 rfl).q ?_
      first | refine l_g (j := 8) rfl rfl (by decide) (p_eql (j := 0) rfl rfl rfl rfl).q ?_ | refine l_g (j := 8) rfl rfl (by decide) (p_eqli rfl rfl).q ?_
      refine l_q (by decide) (p_pick rfl rfl).q ?_
      refine l_q (by decide) (p_move rfl).q ?_
      first | refine l_splitd (t := 26) rfl (fun h26 => ?_) (fun h26 => ?_) | refine l_splitb (t := 26) rfl (fun h26 => ?_) (fun h26 => ?_)
      · skip
        refine l_off (j := 14) rfl rfl (by first | (simp; done) | (simp [undef]; done)) (by decide) ?_
        refine l_off (j := 14) rfl rfl (by first | (simp; done) | (simp [undef]; done)) (by decide) ?_
        refine l_off (j := 14) rfl rfl (by first | (simp; done) | (simp [undef]; done)) (by decide) ?_
        refine l_q (by decide) (p_pick rfl rfl).q ?_
        refine l_nil ?_
        refine c_join (()) ?inv ?sub ?perm ?facts
        case sub => exact ⟨rfl, rfl, (boolp (.inr (.inl h26))), trivial⟩
        case perm =>
          exact .refl _
        case facts => exact fun _ h => h
        case inv =>
          trivial
      · skip
        first | refine l_g (j := 14) rfl rfl (by decide) (r_loada Try.underlying24 rfl inf_24 rfl (by first | exact .fact (by repeat (first | exact List.Mem.head _ | apply List.Mem.tail)) | exact .own (by repeat (first | exact List.Mem.head _ | apply List.Mem.tail)) (by decide) (fun _ => rfl)) (by assumption)).q ?_ | refine l_g (j := 14) rfl rfl (by decide) (r_loadow Try.underlying24 rfl inf_24 rfl (by repeat (first | exact List.Mem.head _ | apply List.Mem.tail)) (by rfl)).q ?_ | refine l_g (j := 14) rfl rfl (by decide) (r_loadoa Try.underlying24 rfl inf_24 rfl (by repeat (first | exact List.Mem.head _ | apply List.Mem.tail)) (by rfl) (fun j u h => h)).q ?_
        refine l_g (j := 14) rfl rfl (by decide) (q_call call_15 rfl (fun w hs => plain_ok A c l s defs (by have := hf0.len; omega) w (hs.facts _ (by repeat (first | exact List.Mem.head _ | apply List.Mem.tail))).1)) ?_
        first | refine l_g (j := 14) rfl rfl (by decide) (p_notd rfl).q ?_ | refine l_g (j := 14) rfl rfl (by decide) (p_not rfl).q ?_
        refine l_q (by decide) (p_pick rfl rfl).q ?_
        refine l_nil ?_
        refine c_join (()) ?inv ?sub ?perm ?facts
        case sub => exact ⟨rfl, rfl, (by rw [show Lay.fairB l s defs = true by simpa using h20]; cases hb : Lay.plainB defs l with | false => exact boolp (by simp) | true => exact booln (by simpa using h26)), trivial⟩
        case perm =>
          exact .refl _
        case facts => exact fun _ h => h
        case inv =>
          trivial
  rintro uu hmeet
  show Cont _ _ _ _ [(1, .int .u8 (b.toNat : Int)), (2, .pointer (some ⟨b2, 0, none⟩)), (30, .bool (decide (¬ Lay.fairB l s defs = true ∨ l.length = 0 ∨ ¬ Lay.plainB defs l = true)))] ([iCells b2 24 [.slice A l.length c, str s, .int .i64 defs]]) [Sl 4 tokF A l]
  first | refine c_dec rfl (fun h30 => ?_) (fun h30 => ?_) | refine c_cond rfl (fun h30 => ?_) (fun h30 => ?_)
  · skip
    refine c_seq ?_
    refine c_reg ?_
    refine l_q (by decide) (p_assign rfl).q ?_
    refine l_nil ?_
    refine c_ret ?_
    refine c_ret1 rfl rfl (fun w hs => ?_)
    exact ⟨rfl, hs.ext⟩
  · skip
    have hf : Lay.Fair l s defs := Lay.fairB_spec (Classical.byContradiction fun h => h30 (.inl h))
    have hpl : Lay.Plain defs l := Lay.plainB_spec.1 (Classical.byContradiction fun h => h30 (.inr (.inr h)))
    have hd0 := hf.d0
    have hd1 := hf.d1
    have hll := hf.len
    have hpos : 0 < l.length := Nat.pos_of_ne_zero fun h => h30 (.inr (.inl h))
    have hb8 := UInt8.toNat_lt b
    have hmod := Nat.mod_lt b.toNat hpos
    obtain ⟨k, hkk⟩ : ∃ k, k = 1 + b.toNat % l.length := ⟨_, rfl⟩
    have hfk : Lay.Fair (l.take k) s defs := ⟨by rw [List.length_take]; omega, hf.slen, hf.d0, hf.d1, fun t ht => hf.at_ t (List.mem_of_mem_take ht)⟩
    refine c_skip ?_
    refine c_seq ?_
    refine c_reg ?_
    refine l_q (by decide) (p_move rfl).q ?_
    refine l_q (by decide) (p_convn Try.underlying5 Try.underlying3 rfl rfl (by show _ ≤ (9223372036854775807 : Nat); omega)).q ?_
    first | refine l_q (by decide) (p_faddr (i := 0) 0 Try.underlying24 rfl inf_22 (by decide) rfl rfl).q ?_ | refine l_q (by decide) (p_faddro (i := 0) 0 Try.underlying24 rfl inf_22 (by decide) rfl rfl).q ?_
    first | refine l_q (by decide) (r_loado Try.underlying22 rfl rfl (by repeat (first | exact List.Mem.head _ | apply List.Mem.tail)) (by rfl)).q ?_ | refine l_q (by decide) (r_load1 Try.underlying22 rfl rfl (by first | exact .fact (by repeat (first | exact List.Mem.head _ | apply List.Mem.tail)) | exact .own (by repeat (first | exact List.Mem.head _ | apply List.Mem.tail)) (by decide) (fun _ => rfl)) (by first | assumption | rfl) (by rfl)).q ?_ | refine l_q (by decide) (r_loadf Try.underlying22 rfl rfl (by first | exact .fact (by repeat (first | exact List.Mem.head _ | apply List.Mem.tail)) | exact .own (by repeat (first | exact List.Mem.head _ | apply List.Mem.tail)) (by decide) (fun _ => rfl)) (by assumption) (by rfl)).q ?_
    refine l_q (by decide) (p_len_sl Try.underlying22 rfl).q ?_
    refine l_q (by decide) (p_rem rfl rfl rfl rfl (by omega)).q ?_
    first | refine l_q (by decide) (((p_add (i := 1) rfl rfl rfl rfl (by show _ ≤ (9223372036854775807 : Nat); omega))).to (u := .int .i64 (k : Int)) (by rw [hkk])).q ?_ | refine l_q (by decide) (((p_addi rfl rfl (by show (-9223372036854775808 : Int) ≤ _; omega) (by show _ ≤ ((9223372036854775807 : Nat) : Int); omega))).to (u := .int .i64 (k : Int)) (by rw [hkk])).q ?_
    refine l_q (by decide) (p_assign rfl).q ?_
    refine l_nil ?_
    refine c_seq ?_
    refine c_reg ?_
    first | refine l_q (by decide) (p_faddr (i := 0) 0 Try.underlying24 rfl inf_22 (by decide) rfl rfl).q ?_ | refine l_q (by decide) (p_faddro (i := 0) 0 Try.underlying24 rfl inf_22 (by decide) rfl rfl).q ?_
    first | refine l_q (by decide) (r_loado Try.underlying22 rfl rfl (by repeat (first | exact List.Mem.head _ | apply List.Mem.tail)) (by rfl)).q ?_ | refine l_q (by decide) (r_load1 Try.underlying22 rfl rfl (by first | exact .fact (by repeat (first | exact List.Mem.head _ | apply List.Mem.tail)) | exact .own (by repeat (first | exact List.Mem.head _ | apply List.Mem.tail)) (by decide) (fun _ => rfl)) (by first | assumption | rfl) (by rfl)).q ?_ | refine l_q (by decide) (r_loadf Try.underlying22 rfl rfl (by first | exact .fact (by repeat (first | exact List.Mem.head _ | apply List.Mem.tail)) | exact .own (by repeat (first | exact List.Mem.head _ | apply List.Mem.tail)) (by decide) (fun _ => rfl)) (by assumption) (by rfl)).q ?_
    first | refine l_q (by decide) (p_faddr (i := 1) 1 Try.underlying24 rfl inf_9 (by decide) rfl rfl).q ?_ | refine l_q (by decide) (p_faddro (i := 1) 1 Try.underlying24 rfl inf_9 (by decide) rfl rfl).q ?_
    first | refine l_q (by decide) (r_loado Try.underlying9 rfl rfl (by repeat (first | exact List.Mem.head _ | apply List.Mem.tail)) (by rfl)).q ?_ | refine l_q (by decide) (r_load1 Try.underlying9 rfl rfl (by first | exact .fact (by repeat (first | exact List.Mem.head _ | apply List.Mem.tail)) | exact .own (by repeat (first | exact List.Mem.head _ | apply List.Mem.tail)) (by decide) (fun _ => rfl)) (by first | assumption | rfl) (by rfl)).q ?_ | refine l_q (by decide) (r_loadf Try.underlying9 rfl rfl (by first | exact .fact (by repeat (first | exact List.Mem.head _ | apply List.Mem.tail)) | exact .own (by repeat (first | exact List.Mem.head _ | apply List.Mem.tail)) (by decide) (fun _ => rfl)) (by assumption) (by rfl)).q ?_
    first | refine l_q (by decide) (p_faddr (i := 2) 2 Try.underlying24 rfl inf_3 (by decide) rfl rfl).q ?_ | refine l_q (by decide) (p_faddro (i := 2) 2 Try.underlying24 rfl inf_3 (by decide) rfl rfl).q ?_
    first | refine l_q (by decide) (r_loado Try.underlying3 rfl rfl (by repeat (first | exact List.Mem.head _ | apply List.Mem.tail)) (by rfl)).q ?_ | refine l_q (by decide) (r_load1 Try.underlying3 rfl rfl (by first | exact .fact (by repeat (first | exact List.Mem.head _ | apply List.Mem.tail)) | exact .own (by repeat (first | exact List.Mem.head _ | apply List.Mem.tail)) (by decide) (fun _ => rfl)) (by first | assumption | rfl) (by rfl)).q ?_ | refine l_q (by decide) (r_loadf Try.underlying3 rfl rfl (by first | exact .fact (by repeat (first | exact List.Mem.head _ | apply List.Mem.tail)) | exact .own (by repeat (first | exact List.Mem.head _ | apply List.Mem.tail)) (by decide) (fun _ => rfl)) (by assumption) (by rfl)).q ?_
    refine l_call (X := Capd (Lay.app l s defs)) (fun x => .slice x.1.1 (Lay.app l s defs).length x.1.2) (fun x => Sl 4 tokF x.1.1 (Lay.app l s defs)) (by decide) call_13 rfl (fun w hs => apply_ok A c l s defs hf.len (by have := hf.slen; omega) hf.d0 hf.d1 hf.at_ w (hs.facts _ (by repeat (first | exact List.Mem.head _ | apply List.Mem.tail))).1) (fun x44 => ?_)
    refine l_q (by decide) (p_assign rfl).q ?_
    refine l_nil ?_
    refine c_seq ?_
    refine m_draw [] mixed ?_
    first | refine m_takep 0 rfl (by kernel_rfl) (by decide) (p_faddr (i := 0) 0 Try.underlying24 rfl inf_22 (by decide) rfl rfl) ?_ | refine m_takep 0 rfl (by kernel_rfl) (by decide) (p_faddro (i := 0) 0 Try.underlying24 rfl inf_22 (by decide) rfl rfl) ?_
    first | refine m_take 1 rfl (by kernel_rfl) (by decide) (by first | exact (List.Perm.refl _ : List.Perm _ ([] ++ _)) | exact (List.Perm.refl _ : List.Perm _ ([_] ++ _)) | exact (List.Perm.refl _ : List.Perm _ ([_, _] ++ _)) | exact (List.Perm.refl _ : List.Perm _ ([_, _, _] ++ _)) | exact (List.Perm.refl _ : List.Perm _ ([_, _, _, _] ++ _)) | exact (List.Perm.refl _ : List.Perm _ ([_, _, _, _, _] ++ _))) (by first | exact fun _ h => h | exact fun _ h => List.mem_cons_of_mem _ h | exact fun _ h => List.mem_cons_of_mem _ (List.mem_cons_of_mem _ h)) (r_loado Try.underlying22 rfl rfl (by repeat (first | exact List.Mem.head _ | apply List.Mem.tail)) (by rfl)).r ?_ | refine m_take 1 rfl (by kernel_rfl) (by decide) (by first | exact (List.Perm.refl _ : List.Perm _ ([] ++ _)) | exact (List.Perm.refl _ : List.Perm _ ([_] ++ _)) | exact (List.Perm.refl _ : List.Perm _ ([_, _] ++ _)) | exact (List.Perm.refl _ : List.Perm _ ([_, _, _] ++ _)) | exact (List.Perm.refl _ : List.Perm _ ([_, _, _, _] ++ _)) | exact (List.Perm.refl _ : List.Perm _ ([_, _, _, _, _] ++ _))) (by first | exact fun _ h => h | exact fun _ h => List.mem_cons_of_mem _ h | exact fun _ h => List.mem_cons_of_mem _ (List.mem_cons_of_mem _ h)) (r_load1 Try.underlying22 rfl rfl (by first | exact .fact (by repeat (first | exact List.Mem.head _ | apply List.Mem.tail)) | exact .own (by repeat (first | exact List.Mem.head _ | apply List.Mem.tail)) (by decide) (fun _ => rfl)) (by first | assumption | rfl) (by rfl)).r ?_ | refine m_take 1 rfl (by kernel_rfl) (by decide) (by first | exact (List.Perm.refl _ : List.Perm _ ([] ++ _)) | exact (List.Perm.refl _ : List.Perm _ ([_] ++ _)) | exact (List.Perm.refl _ : List.Perm _ ([_, _] ++ _)) | exact (List.Perm.refl _ : List.Perm _ ([_, _, _] ++ _)) | exact (List.Perm.refl _ : List.Perm _ ([_, _, _, _] ++ _)) | exact (List.Perm.refl _ : List.Perm _ ([_, _, _, _, _] ++ _))) (by first | exact fun _ h => h | exact fun _ h => List.mem_cons_of_mem _ h | exact fun _ h => List.mem_cons_of_mem _ (List.mem_cons_of_mem _ h)) (r_loadf Try.underlying22 rfl rfl (by first | exact .fact (by repeat (first | exact List.Mem.head _ | apply List.Mem.tail)) | exact .own (by repeat (first | exact List.Mem.head _ | apply List.Mem.tail)) (by decide) (fun _ => rfl)) (by assumption) (by rfl)).r ?_
    refine m_takep 2 rfl (by kernel_rfl) (by decide) (p_move rfl) ?_
    first | refine m_takep 3 rfl (by kernel_rfl) (by decide) (p_part_h Try.underlying22 inf_33 rfl rfl rfl (by omega) (by omega)) ?_ | refine m_takep 3 rfl (by kernel_rfl) (by decide) (p_slices_h Try.underlying22 inf_33 rfl rfl rfl (by omega)) ?_
    first | refine m_takep 4 rfl (by kernel_rfl) (by decide) (p_faddr (i := 1) 1 Try.underlying24 rfl inf_9 (by decide) rfl rfl) ?_ | refine m_takep 4 rfl (by kernel_rfl) (by decide) (p_faddro (i := 1) 1 Try.underlying24 rfl inf_9 (by decide) rfl rfl) ?_
    first | refine m_take 5 rfl (by kernel_rfl) (by decide) (by first | exact (List.Perm.refl _ : List.Perm _ ([] ++ _)) | exact (List.Perm.refl _ : List.Perm _ ([_] ++ _)) | exact (List.Perm.refl _ : List.Perm _ ([_, _] ++ _)) | exact (List.Perm.refl _ : List.Perm _ ([_, _, _] ++ _)) | exact (List.Perm.refl _ : List.Perm _ ([_, _, _, _] ++ _)) | exact (List.Perm.refl _ : List.Perm _ ([_, _, _, _, _] ++ _))) (by first | exact fun _ h => h | exact fun _ h => List.mem_cons_of_mem _ h | exact fun _ h => List.mem_cons_of_mem _ (List.mem_cons_of_mem _ h)) (r_loado Try.underlying9 rfl rfl (by repeat (first | exact List.Mem.head _ | apply List.Mem.tail)) (by rfl)).r ?_ | refine m_take 5 rfl (by kernel_rfl) (by decide) (by first | exact (List.Perm.refl _ : List.Perm _ ([] ++ _)) | exact (List.Perm.refl _ : List.Perm _ ([_] ++ _)) | exact (List.Perm.refl _ : List.Perm _ ([_, _] ++ _)) | exact (List.Perm.refl _ : List.Perm _ ([_, _, _] ++ _)) | exact (List.Perm.refl _ : List.Perm _ ([_, _, _, _] ++ _)) | exact (List.Perm.refl _ : List.Perm _ ([_, _, _, _, _] ++ _))) (by first | exact fun _ h => h | exact fun _ h => List.mem_cons_of_mem _ h | exact fun _ h => List.mem_cons_of_mem _ (List.mem_cons_of_mem _ h)) (r_load1 Try.underlying9 rfl rfl (by first | exact .fact (by repeat (first | exact List.Mem.head _ | apply List.Mem.tail)) | exact .own (by repeat (first | exact List.Mem.head _ | apply List.Mem.tail)) (by decide) (fun _ => rfl)) (by first | assumption | rfl) (by rfl)).r ?_ | refine m_take 5 rfl (by kernel_rfl) (by decide) (by first | exact (List.Perm.refl _ : List.Perm _ ([] ++ _)) | exact (List.Perm.refl _ : List.Perm _ ([_] ++ _)) | exact (List.Perm.refl _ : List.Perm _ ([_, _] ++ _)) | exact (List.Perm.refl _ : List.Perm _ ([_, _, _] ++ _)) | exact (List.Perm.refl _ : List.Perm _ ([_, _, _, _] ++ _)) | exact (List.Perm.refl _ : List.Perm _ ([_, _, _, _, _] ++ _))) (by first | exact fun _ h => h | exact fun _ h => List.mem_cons_of_mem _ h | exact fun _ h => List.mem_cons_of_mem _ (List.mem_cons_of_mem _ h)) (r_loadf Try.underlying9 rfl rfl (by first | exact .fact (by repeat (first | exact List.Mem.head _ | apply List.Mem.tail)) | exact .own (by repeat (first | exact List.Mem.head _ | apply List.Mem.tail)) (by decide) (fun _ => rfl)) (by assumption) (by rfl)).r ?_
    first | refine m_takep 6 rfl (by kernel_rfl) (by decide) (p_faddr (i := 2) 2 Try.underlying24 rfl inf_3 (by decide) rfl rfl) ?_ | refine m_takep 6 rfl (by kernel_rfl) (by decide) (p_faddro (i := 2) 2 Try.underlying24 rfl inf_3 (by decide) rfl rfl) ?_
    first | refine m_take 7 rfl (by kernel_rfl) (by decide) (by first | exact (List.Perm.refl _ : List.Perm _ ([] ++ _)) | exact (List.Perm.refl _ : List.Perm _ ([_] ++ _)) | exact (List.Perm.refl _ : List.Perm _ ([_, _] ++ _)) | exact (List.Perm.refl _ : List.Perm _ ([_, _, _] ++ _)) | exact (List.Perm.refl _ : List.Perm _ ([_, _, _, _] ++ _)) | exact (List.Perm.refl _ : List.Perm _ ([_, _, _, _, _] ++ _))) (by first | exact fun _ h => h | exact fun _ h => List.mem_cons_of_mem _ h | exact fun _ h => List.mem_cons_of_mem _ (List.mem_cons_of_mem _ h)) (r_loado Try.underlying3 rfl rfl (by repeat (first | exact List.Mem.head _ | apply List.Mem.tail)) (by rfl)).r ?_ | refine m_take 7 rfl (by kernel_rfl) (by decide) (by first | exact (List.Perm.refl _ : List.Perm _ ([] ++ _)) | exact (List.Perm.refl _ : List.Perm _ ([_] ++ _)) | exact (List.Perm.refl _ : List.Perm _ ([_, _] ++ _)) | exact (List.Perm.refl _ : List.Perm _ ([_, _, _] ++ _)) | exact (List.Perm.refl _ : List.Perm _ ([_, _, _, _] ++ _)) | exact (List.Perm.refl _ : List.Perm _ ([_, _, _, _, _] ++ _))) (by first | exact fun _ h => h | exact fun _ h => List.mem_cons_of_mem _ h | exact fun _ h => List.mem_cons_of_mem _ (List.mem_cons_of_mem _ h)) (r_load1 Try.underlying3 rfl rfl (by first | exact .fact (by repeat (first | exact List.Mem.head _ | apply List.Mem.tail)) | exact .own (by repeat (first | exact List.Mem.head _ | apply List.Mem.tail)) (by decide) (fun _ => rfl)) (by first | assumption | rfl) (by rfl)).r ?_ | refine m_take 7 rfl (by kernel_rfl) (by decide) (by first | exact (List.Perm.refl _ : List.Perm _ ([] ++ _)) | exact (List.Perm.refl _ : List.Perm _ ([_] ++ _)) | exact (List.Perm.refl _ : List.Perm _ ([_, _] ++ _)) | exact (List.Perm.refl _ : List.Perm _ ([_, _, _] ++ _)) | exact (List.Perm.refl _ : List.Perm _ ([_, _, _, _] ++ _)) | exact (List.Perm.refl _ : List.Perm _ ([_, _, _, _, _] ++ _))) (by first | exact fun _ h => h | exact fun _ h => List.mem_cons_of_mem _ h | exact fun _ h => List.mem_cons_of_mem _ (List.mem_cons_of_mem _ h)) (r_loadf Try.underlying3 rfl rfl (by first | exact .fact (by repeat (first | exact List.Mem.head _ | apply List.Mem.tail)) | exact .own (by repeat (first | exact List.Mem.head _ | apply List.Mem.tail)) (by decide) (fun _ => rfl)) (by assumption) (by rfl)).r ?_
    refine m_run 8 rfl (by kernel_rfl) ?_
    refine l_part (size := 4) (f := tokF) (A := A) (es := l) c 0 k (by repeat (first | exact List.Mem.head _ | apply List.Mem.tail)) hcap (by decide) ?_
    rw [List.drop_zero]
    refine l_call (X := Capd (Lay.app (l.take k) s defs)) (fun x => .slice x.1.1 (Lay.app (l.take k) s defs).length x.1.2) (fun x => Sl 4 tokF x.1.1 (Lay.app (l.take k) s defs)) (by decide) call_13 rfl (fun w hs => apply_ok (subA A c 0 4) c (l.take k) s defs hfk.len (by have := hfk.slen; omega) hfk.d0 hfk.d1 hfk.at_ w (hs.facts _ (by repeat (first | exact List.Mem.head _ | apply List.Mem.tail))).1) (fun x53 => ?_)
    refine l_nil ?_
    refine m_next _ (by first | exact (List.Perm.refl _ : List.Perm _ ([] ++ _)) | exact (List.Perm.refl _ : List.Perm _ ([_] ++ _)) | exact (List.Perm.refl _ : List.Perm _ ([_, _] ++ _)) | exact (List.Perm.refl _ : List.Perm _ ([_, _, _] ++ _)) | exact (List.Perm.refl _ : List.Perm _ ([_, _, _, _] ++ _)) | exact (List.Perm.refl _ : List.Perm _ ([_, _, _, _, _] ++ _))) (by first | exact fun _ h => h | exact fun _ h => List.mem_cons_of_mem _ h | exact fun _ h => List.mem_cons_of_mem _ (List.mem_cons_of_mem _ h)) ?_
    refine m_takep 9 rfl (by kernel_rfl) (by decide) (p_assign rfl) ?_
    refine m_done (by kernel_rfl) ?_
    refine c_seq ?_
    refine c_reg ?_
    refine l_q (by decide) (p_assign (v := .int .i64 ((0 : Nat) : Int)) rfl).q ?_
    refine l_nil ?_
    refine c_seq ?_
    refine c_seq ?_
    refine c_reg ?_
    refine l_q (by decide) (p_assign (v := .int .i64 ((0 : Nat) : Int)) rfl).q ?_
    refine l_nil ?_
    refine c_block ?_
    refine c_loop (S := Nat) (fun zs => zs ≤ (Lay.run s defs (l.take k)).out.length) (fun zs => (Lay.run s defs (l.take k)).out.length - zs) (fun zs => [(2, .pointer (some ⟨b2, 0, none⟩)), (5, .int .i64 (k : Int)), (6, .slice x44.1.1 (Lay.app l s defs).length x44.1.2), (7, .slice x53.1.1 (Lay.app (l.take k) s defs).length x53.1.2), (8, .int .i64 (Lay.cnt defs (Lay.run s defs (l.take k)).out zs : Int)), (9, .int .i64 (zs : Int))]) (fun zs => [iCells b2 24 [.slice A l.length c, str s, .int .i64 defs]]) (fun zs => [Sl 4 tokF x53.1.1 (Lay.app (l.take k) s defs), Sl 4 tokF (subA A c 0 4) (l.take k), Sl 4 tokF x44.1.1 (Lay.app l s defs), Sl 4 tokF A l]) (0) ?_ ?_ ?_ ?_ ?_
    · show (0) ≤ (Lay.run s defs (l.take k)).out.length
      exact Nat.zero_le _
    · exact ⟨rfl, rfl, rfl, rfl, rfl, rfl, trivial⟩
    · exact .refl _
    · exact fun _ h => h
    rintro i hinv
    have hinv : i ≤ (Lay.run s defs (l.take k)).out.length := hinv
    have hi := hinv
    show Cont _ _ _ _ [(2, .pointer (some ⟨b2, 0, none⟩)), (5, .int .i64 (k : Int)), (6, .slice x44.1.1 (Lay.app l s defs).length x44.1.2), (7, .slice x53.1.1 (Lay.app (l.take k) s defs).length x53.1.2), (8, .int .i64 (Lay.cnt defs (Lay.run s defs (l.take k)).out i : Int)), (9, .int .i64 (i : Int))] ([iCells b2 24 [.slice A l.length c, str s, .int .i64 defs]]) [Sl 4 tokF x53.1.1 (Lay.app (l.take k) s defs), Sl 4 tokF (subA A c 0 4) (l.take k), Sl 4 tokF x44.1.1 (Lay.app l s defs), Sl 4 tokF A l]
    refine c_seq ?_
    refine c_seq ?_
    refine c_meetn (S := Unit) (fun zs => True) (fun zs => [(2, .pointer (some ⟨b2, 0, none⟩)), (5, .int .i64 (k : Int)), (6, .slice x44.1.1 (Lay.app l s defs).length x44.1.2), (7, .slice x53.1.1 (Lay.app (l.take k) s defs).length x53.1.2), (8, .int .i64 (Lay.cnt defs (Lay.run s defs (l.take k)).out i : Int)), (9, .int .i64 (i : Int)), (62, .bool (decide (i < (Lay.app (l.take k) s defs).length ∧ Lay.cnt defs (Lay.run s defs (l.take k)).out i < k)))]) (fun zs => [iCells b2 24 [.slice A l.length c, str s, .int .i64 defs]]) (fun zs => [Sl 4 tokF x53.1.1 (Lay.app (l.take k) s defs), Sl 4 tokF (subA A c 0 4) (l.take k), Sl 4 tokF x44.1.1 (Lay.app l s defs), Sl 4 tokF A l]) ?_ ?_
    · skip
      refine c_reg ?_
      refine l_q (by decide) (p_move rfl).q ?_
      refine l_q (by decide) (p_move rfl).q ?_
      refine l_q (by decide) (p_len_sl Try.underlying22 rfl).q ?_
      first | refine l_q (by decide) (p_lss rfl rfl rfl rfl).q ?_ | refine l_q (by decide) (p_lssi rfl rfl).q ?_
      refine l_q (by decide) (p_move rfl).q ?_
      first | refine l_splitd (t := 58) rfl (fun h58 => ?_) (fun h58 => ?_) | refine l_splitb (t := 58) rfl (fun h58 => ?_) (fun h58 => ?_)
      · skip
        refine l_g (j := 4) rfl rfl (by decide) (p_move rfl).q ?_
        refine l_g (j := 4) rfl rfl (by decide) (p_move rfl).q ?_
        first | refine l_g (j := 4) rfl rfl (by decide) (p_lss rfl rfl rfl rfl).q ?_ | refine l_g (j := 4) rfl rfl (by decide) (p_lssi rfl rfl).q ?_
        refine l_q (by decide) (p_pick rfl rfl).q ?_
        refine l_nil ?_
        refine c_join (()) ?inv ?sub ?perm ?facts
        case sub => exact ⟨rfl, rfl, rfl, rfl, rfl, rfl, (by first | rfl | exact congrArg (fun b => some (Value.bool b)) (decide_eq_true (by omega)).symm | exact congrArg (fun b => some (Value.bool b)) (decide_eq_false (by omega)).symm | exact congrArg (fun b => some (Value.bool b)) (decide_eq_decide.2 (by omega))), trivial⟩
        case perm =>
          exact .refl _
        case facts => exact fun _ h => h
        case inv =>
          trivial
      · skip
        refine l_off (j := 4) rfl rfl (by first | (simp; done) | (simp [undef]; done)) (by decide) ?_
        refine l_off (j := 4) rfl rfl (by first | (simp; done) | (simp [undef]; done)) (by decide) ?_
        refine l_off (j := 4) rfl rfl (by first | (simp; done) | (simp [undef]; done)) (by decide) ?_
        refine l_q (by decide) (p_pick rfl rfl).q ?_
        refine l_nil ?_
        refine c_join (()) ?inv ?sub ?perm ?facts
        case sub => exact ⟨rfl, rfl, rfl, rfl, rfl, rfl, (by first | rfl | exact congrArg (fun b => some (Value.bool b)) (decide_eq_true (by omega)).symm | exact congrArg (fun b => some (Value.bool b)) (decide_eq_false (by omega)).symm | exact congrArg (fun b => some (Value.bool b)) (decide_eq_decide.2 (by omega))), trivial⟩
        case perm =>
          exact .refl _
        case facts => exact fun _ h => h
        case inv =>
          trivial
    rintro uu hmeet
    show Cont _ _ _ _ [(2, .pointer (some ⟨b2, 0, none⟩)), (5, .int .i64 (k : Int)), (6, .slice x44.1.1 (Lay.app l s defs).length x44.1.2), (7, .slice x53.1.1 (Lay.app (l.take k) s defs).length x53.1.2), (8, .int .i64 (Lay.cnt defs (Lay.run s defs (l.take k)).out i : Int)), (9, .int .i64 (i : Int)), (62, .bool (decide (i < (Lay.app (l.take k) s defs).length ∧ Lay.cnt defs (Lay.run s defs (l.take k)).out i < k)))] ([iCells b2 24 [.slice A l.length c, str s, .int .i64 defs]]) [Sl 4 tokF x53.1.1 (Lay.app (l.take k) s defs), Sl 4 tokF (subA A c 0 4) (l.take k), Sl 4 tokF x44.1.1 (Lay.app l s defs), Sl 4 tokF A l]
    first | refine c_dec rfl (fun h62 => ?_) (fun h62 => ?_) | refine c_cond rfl (fun h62 => ?_) (fun h62 => ?_)
    · skip
      have hcle := Lay.cnt_le defs (Lay.run s defs (l.take k)).out i
      have hcr := Lay.cnt_run (s := s) hpl (show k ≤ l.length by omega)
      have hilt : i < (Lay.run s defs (l.take k)).out.length := by
        refine Classical.byContradiction fun h => ?_
        have := Lay.cnt_full defs (Lay.run s defs (l.take k)).out i (by omega)
        omega
      obtain ⟨e, he0⟩ := at_some (l := (Lay.run s defs (l.take k)).out) hilt
      have hsm := Lay.app_same hilt
      rw [he0] at hsm
      have hlg := Lay.app_long (s := s) (defs := defs) (l := l) (k := k)
      have hs1 := hsm.1
      have hs2 := hsm.2
      have hfull := app_short hf
      refine c_skip ?_
      refine c_seq ?_
      refine c_block ?_
      refine c_seq ?_
      refine c_seq ?_
      refine c_draw mixed (by decide +kernel) ?_
      refine q_q (by decide) (p_move rfl).q ?_
      refine q_q (by decide) (p_move rfl).q ?_
      refine q_q (by decide) (p_len_sl Try.underlying22 rfl).q ?_
      first | refine q_q (by decide) (p_geq rfl rfl rfl rfl).q ?_ | refine q_q (by decide) (p_geqi rfl rfl).q ?_
      refine q_q (by decide) (((p_move rfl)).to (u := .bool false) (by rw [decide_eq_false (by omega)])).q ?_
      refine q_g (j := 4) rfl rfl (by decide) (p_move rfl).q ?_
      refine q_g (j := 4) rfl rfl (by decide) (p_move rfl).q ?_
      first | refine q_g (j := 4) rfl rfl (by decide) (r_index Try.underlying22 inf_33 rfl rfl rfl (by first | exact .fact (by repeat (first | exact List.Mem.head _ | apply List.Mem.tail)) | exact .own (by repeat (first | exact List.Mem.head _ | apply List.Mem.tail)) (by decide) (fun _ => rfl)) rfl (by omega)).q ?_ | refine q_g (j := 4) rfl rfl (by decide) (r_index Try.underlying22 inf_33 rfl rfl rfl (by first | exact .fact (by repeat (first | exact List.Mem.head _ | apply List.Mem.tail)) | exact .own (by repeat (first | exact List.Mem.head _ | apply List.Mem.tail)) (by decide) (fun _ => rfl)) rfl (by decide)).q ?_ | refine q_g (j := 4) rfl rfl (by decide) (p_indexo Try.underlying22 inf_33 rfl rfl rfl (by omega)).q ?_
      first | refine q_g (j := 4) rfl rfl (by decide) (r_loada Try.underlying33 rfl inf_33 rfl (by first | exact .fact (by repeat (first | exact List.Mem.head _ | apply List.Mem.tail)) | exact .own (by repeat (first | exact List.Mem.head _ | apply List.Mem.tail)) (by decide) (fun _ => rfl)) (by assumption)).q ?_ | refine q_g (j := 4) rfl rfl (by decide) (r_loadow Try.underlying33 rfl inf_33 rfl (by repeat (first | exact List.Mem.head _ | apply List.Mem.tail)) (by rfl)).q ?_ | refine q_g (j := 4) rfl rfl (by decide) (r_loadoa Try.underlying33 rfl inf_33 rfl (by repeat (first | exact List.Mem.head _ | apply List.Mem.tail)) (by rfl) (fun j u h => h)).q ?_
      refine q_g (j := 4) rfl rfl (by decide) (p_move rfl).q ?_
      refine q_g (j := 4) rfl rfl (by decide) (p_move rfl).q ?_
      first | refine q_g (j := 4) rfl rfl (by decide) (r_index Try.underlying22 inf_33 rfl rfl rfl (by first | exact .fact (by repeat (first | exact List.Mem.head _ | apply List.Mem.tail)) | exact .own (by repeat (first | exact List.Mem.head _ | apply List.Mem.tail)) (by decide) (fun _ => rfl)) rfl (by omega)).q ?_ | refine q_g (j := 4) rfl rfl (by decide) (r_index Try.underlying22 inf_33 rfl rfl rfl (by first | exact .fact (by repeat (first | exact List.Mem.head _ | apply List.Mem.tail)) | exact .own (by repeat (first | exact List.Mem.head _ | apply List.Mem.tail)) (by decide) (fun _ => rfl)) rfl (by decide)).q ?_ | refine q_g (j := 4) rfl rfl (by decide) (p_indexo Try.underlying22 inf_33 rfl rfl rfl (by omega)).q ?_
      first | refine q_g (j := 4) rfl rfl (by decide) (r_loada Try.underlying33 rfl inf_33 rfl (by first | exact .fact (by repeat (first | exact List.Mem.head _ | apply List.Mem.tail)) | exact .own (by repeat (first | exact List.Mem.head _ | apply List.Mem.tail)) (by decide) (fun _ => rfl)) (by assumption)).q ?_ | refine q_g (j := 4) rfl rfl (by decide) (r_loadow Try.underlying33 rfl inf_33 rfl (by repeat (first | exact List.Mem.head _ | apply List.Mem.tail)) (by rfl)).q ?_ | refine q_g (j := 4) rfl rfl (by decide) (r_loadoa Try.underlying33 rfl inf_33 rfl (by repeat (first | exact List.Mem.head _ | apply List.Mem.tail)) (by rfl) (fun j u h => h)).q ?_
      refine q_g (j := 4) rfl rfl (by decide) (((neq_tok (e := e) (e' := e) rfl rfl)).to (u := .bool false) (by rw [decide_eq_false (fun h => h rfl)])).q ?_
      refine q_q (by decide) (p_pick rfl rfl).q ?_
      refine q_nil ?_
      refine c_false rfl ?_
      refine c_skip ?_
      refine c_seq ?_
      refine c_draw mixed (by decide +kernel) ?_
      refine q_q (by decide) (p_move rfl).q ?_
      refine q_q (by decide) (p_move rfl).q ?_
      first | refine q_q (by decide) (r_index Try.underlying22 inf_33 rfl rfl rfl (by first | exact .fact (by repeat (first | exact List.Mem.head _ | apply List.Mem.tail)) | exact .own (by repeat (first | exact List.Mem.head _ | apply List.Mem.tail)) (by decide) (fun _ => rfl)) rfl (by omega)).q ?_ | refine q_q (by decide) (r_index Try.underlying22 inf_33 rfl rfl rfl (by first | exact .fact (by repeat (first | exact List.Mem.head _ | apply List.Mem.tail)) | exact .own (by repeat (first | exact List.Mem.head _ | apply List.Mem.tail)) (by decide) (fun _ => rfl)) rfl (by decide)).q ?_ | refine q_q (by decide) (p_indexo Try.underlying22 inf_33 rfl rfl rfl (by omega)).q ?_
      first | refine q_q (by decide) (p_faddr (i := 0) 0 Try.underlying33 rfl inf_3 (by decide) rfl rfl).q ?_ | refine q_q (by decide) (p_faddro (i := 0) 0 Try.underlying33 rfl inf_3 (by decide) rfl rfl).q ?_
      first | refine q_q (by decide) (r_loado Try.underlying3 rfl rfl (by repeat (first | exact List.Mem.head _ | apply List.Mem.tail)) (by rfl)).q ?_ | refine q_q (by decide) (r_load1 Try.underlying3 rfl rfl (by first | exact .fact (by repeat (first | exact List.Mem.head _ | apply List.Mem.tail)) | exact .own (by repeat (first | exact List.Mem.head _ | apply List.Mem.tail)) (by decide) (fun _ => rfl)) (by first | assumption | rfl) (by rfl)).q ?_ | refine q_q (by decide) (r_loadf Try.underlying3 rfl rfl (by first | exact .fact (by repeat (first | exact List.Mem.head _ | apply List.Mem.tail)) | exact .own (by repeat (first | exact List.Mem.head _ | apply List.Mem.tail)) (by decide) (fun _ => rfl)) (by assumption) (by rfl)).q ?_
      first | refine q_q (by decide) (p_faddr (i := 2) 2 Try.underlying24 rfl inf_3 (by decide) rfl rfl).q ?_ | refine q_q (by decide) (p_faddro (i := 2) 2 Try.underlying24 rfl inf_3 (by decide) rfl rfl).q ?_
      first | refine q_q (by decide) (r_loado Try.underlying3 rfl rfl (by repeat (first | exact List.Mem.head _ | apply List.Mem.tail)) (by rfl)).q ?_ | refine q_q (by decide) (r_load1 Try.underlying3 rfl rfl (by first | exact .fact (by repeat (first | exact List.Mem.head _ | apply List.Mem.tail)) | exact .own (by repeat (first | exact List.Mem.head _ | apply List.Mem.tail)) (by decide) (fun _ => rfl)) (by first | assumption | rfl) (by rfl)).q ?_ | refine q_q (by decide) (r_loadf Try.underlying3 rfl rfl (by first | exact .fact (by repeat (first | exact List.Mem.head _ | apply List.Mem.tail)) | exact .own (by repeat (first | exact List.Mem.head _ | apply List.Mem.tail)) (by decide) (fun _ => rfl)) (by assumption) (by rfl)).q ?_
      first | refine q_q (by decide) (p_lss rfl rfl rfl rfl).q ?_ | refine q_q (by decide) (p_lssi rfl rfl).q ?_
      refine q_nil ?_
      first | refine c_dec rfl (fun h87 => ?_) (fun h87 => ?_) | refine c_cond rfl (fun h87 => ?_) (fun h87 => ?_)
      · skip
        refine c_reg ?_
        refine l_q (by decide) (p_move rfl).q ?_
        first | refine l_q (by decide) (p_add (j := 1) rfl rfl rfl rfl (by show _ ≤ (9223372036854775807 : Nat); omega)).q ?_ | refine l_q (by decide) (p_addi rfl rfl (by show (-9223372036854775808 : Int) ≤ _; omega) (by show _ ≤ ((9223372036854775807 : Nat) : Int); omega)).q ?_
        refine l_q (by decide) (p_assign rfl).q ?_
        refine l_nil ?_
        refine c_reg ?_
        refine l_q (by decide) (p_move rfl).q ?_
        first | refine l_q (by decide) (p_add (j := 1) rfl rfl rfl rfl (by show _ ≤ (9223372036854775807 : Nat); omega)).q ?_ | refine l_q (by decide) (p_addi rfl rfl (by show (-9223372036854775808 : Int) ≤ _; omega) (by show _ ≤ ((9223372036854775807 : Nat) : Int); omega)).q ?_
        refine l_q (by decide) (p_assign rfl).q ?_
        refine l_nil ?_
        refine c_join ((i + 1)) ?_ ?_ ?_ ?_
        · show ((i + 1) ≤ (Lay.run s defs (l.take k)).out.length) ∧ (Lay.run s defs (l.take k)).out.length - (i + 1) < (Lay.run s defs (l.take k)).out.length - i
          exact ⟨by omega, by omega⟩
        · exact ⟨rfl, rfl, rfl, rfl, (by rw [Lay.cnt_step he0, if_pos h87]; rfl), rfl, trivial⟩
        · show List.Perm _ ([iCells b2 24 [.slice A l.length c, str s, .int .i64 defs]])
          exact .refl _
        · exact fun _ h => h
      · skip
        refine c_skip ?_
        refine c_reg ?_
        refine l_q (by decide) (p_move rfl).q ?_
        first | refine l_q (by decide) (p_add (j := 1) rfl rfl rfl rfl (by show _ ≤ (9223372036854775807 : Nat); omega)).q ?_ | refine l_q (by decide) (p_addi rfl rfl (by show (-9223372036854775808 : Int) ≤ _; omega) (by show _ ≤ ((9223372036854775807 : Nat) : Int); omega)).q ?_
        refine l_q (by decide) (p_assign rfl).q ?_
        refine l_nil ?_
        refine c_join ((i + 1)) ?_ ?_ ?_ ?_
        · show ((i + 1) ≤ (Lay.run s defs (l.take k)).out.length) ∧ (Lay.run s defs (l.take k)).out.length - (i + 1) < (Lay.run s defs (l.take k)).out.length - i
          exact ⟨by omega, by omega⟩
        · exact ⟨rfl, rfl, rfl, rfl, (by rw [Lay.cnt_step he0, if_neg h87]; rfl), rfl, trivial⟩
        · show List.Perm _ ([iCells b2 24 [.slice A l.length c, str s, .int .i64 defs]])
          exact .refl _
        · exact fun _ h => h
    · skip
      have hcle := Lay.cnt_le defs (Lay.run s defs (l.take k)).out i
      have hcr := Lay.cnt_run (s := s) hpl (show k ≤ l.length by omega)
      have hlg := Lay.app_long (s := s) (defs := defs) (l := l) (k := k)
      have hcf := Lay.cnt_full defs (Lay.run s defs (l.take k)).out i
      refine c_exit ?_
      refine c_here ?_
      refine c_seq ?_
      refine c_reg ?_
      refine l_q (by decide) (p_move rfl).q ?_
      refine l_q (by decide) (p_move rfl).q ?_
      first | refine l_q (by decide) (((p_eql rfl rfl rfl rfl)).to (u := .bool true) (by rw [decide_eq_true (by omega)])).q ?_ | refine l_q (by decide) (((p_eqli rfl rfl)).to (u := .bool true) (by rw [decide_eq_true (by omega)])).q ?_
      refine l_q (by decide) (p_assign rfl).q ?_
      refine l_nil ?_
      refine c_ret ?_
      refine c_ret1 rfl rfl (fun w hs => ?_)
      exact ⟨rfl, hs.ext⟩
end Go.Proofs.Ytejhgbnpmelgcaa
