/- The walks of ropes, sixth part; conditions: lengths. -/
import Derived.Test.YtdpocfkbnfhcfaaWalksE
namespace Go.Proofs.Ytdpocfkbnfhcfaa
open Go Go.Fx Go.Proofs

theorem at_left {l r : List UInt8} {k : Nat} {z : Option UInt8} (h : (l ++ r)[k]? = z) (hk : k < l.length) : l[k]? = z := by rw [List.getElem?_append_left hk] at h; exact h
theorem at_right {l r : List UInt8} {k : Nat} {z : Option UInt8} (h : (l ++ r)[k]? = z) (hk : ¬ k < l.length) : r[k - l.length]? = z := by rw [List.getElem?_append_right (by omega)] at h; exact h
theorem height_le {t : Option T} (hg : Rope.GoodO (plO t)) : hgO t ≤ Rope.bound (szO t) := by
  cases t with
  | none => exact Nat.zero_le _
  | some t => exact Rope.Good.bound hg
theorem height_0 {t : Option T} (hg : Rope.GoodO (plO t)) (h : szO t ≤ 64) : hgO t = 0 := by
  have := height_le hg
  unfold Rope.bound at this; rw [if_pos h] at this; omega
theorem pl_32 : PlacesIs Try.prog 32 [(0, 1), (1, 1), (2, 1)] := ⟨_, Try.underlying32, by kernel_rfl⟩
theorem call_13 : Callable Try.prog 13 := ⟨_, Try.func13, by kernel_rfl, rfl⟩
theorem call_14 : Callable Try.prog 14 := ⟨_, Try.func14, by kernel_rfl, rfl⟩
theorem call_15 : Callable Try.prog 15 := ⟨_, Try.func15, by kernel_rfl, rfl⟩
theorem call_17 : Callable Try.prog 17 := ⟨_, Try.func17, by kernel_rfl, rfl⟩
theorem call_19 : Callable Try.prog 19 := ⟨_, Try.func19, by kernel_rfl, rfl⟩
theorem call_22 : Callable Try.prog 22 := ⟨_, Try.func22, by kernel_rfl, rfl⟩
theorem call_24 : Callable Try.prog 24 := ⟨_, Try.func24, by kernel_rfl, rfl⟩
theorem call_25 : Callable Try.prog 25 := ⟨_, Try.func25, by kernel_rfl, rfl⟩
theorem byte_m (t : Option T) (x : Int) (hsz : szO t ≤ 16000) (w : World) (h : liesO t w) :
   Calls Try.prog 19 #[.agg #[ptrO t], .int .i64 x] w (Ret fun v w' => v = .tuple #[.int .u8 (bytT (txO t) x).1, .int .i64 (bytT (txO t) x).2] ∧ Ext [] w w') := by
 refine calls_fx (l := [.agg #[ptrO t], .int .i64 x]) Try.func19 rfl Try.ntmps19 (Nat.le_of_ble_eq_true rfl) (startO h) ?_
 refine c_seq ?_
 refine c_reg ?_
 refine l_box (by decide) rfl _ rfl (fun b2 => ?_)
 refine l_q (by decide) (p_assign (v := .int .u8 ((0 : Nat) : Int)) rfl).q ?_
 refine l_q (by decide) (p_assign (v := .int .i64 ((0 : Nat) : Int)) rfl).q ?_
 refine l_nil ?_
 refine c_seq ?_
 refine c_seq ?_
 refine c_meetn (S := Unit) (fun zs => True) (fun zs => [(1, .int .i64 x), (2, .pointer (some ⟨b2, 0, none⟩)), (14, .bool (decide (¬ (0 ≤ x ∧ x < ((szO t : Nat) : Int)))))]) (fun zs => [iCells b2 26 [ptrO t]]) (fun zs => [liesO t]) ?_ ?_
 ·skip
  refine c_reg ?_
  refine l_q (by decide) (p_move rfl).q ?_
  first | refine l_q (by decide) (p_lss (j := 0) rfl rfl rfl rfl).q ?_ | refine l_q (by decide) (p_lssi rfl rfl).q ?_
  refine l_q (by decide) (p_move rfl).q ?_
  first | refine l_splitd (t := 9) rfl (fun h9 => ?_) (fun h9 => ?_) | refine l_splitb (t := 9) rfl (fun h9 => ?_) (fun h9 => ?_)
  ·skip
   refine l_off (j := 2) rfl rfl (by first | (simp; done) | (simp [undef]; done)) (by decide) ?_
   refine l_off (j := 2) rfl rfl (by first | (simp; done) | (simp [undef]; done)) (by decide) ?_
   refine l_off (j := 2) rfl rfl (by first | (simp; done) | (simp [undef]; done)) (by decide) ?_
   refine l_off (j := 2) rfl rfl (by first | (simp; done) | (simp [undef]; done)) (by decide) ?_
   refine l_q (by decide) (p_pick rfl rfl).q ?_
   refine l_nil ?_
   refine c_join (()) ?inv ?sub ?perm ?facts
   case sub => exact ⟨rfl, rfl, (by first | rfl | exact congrArg (fun b => some (Value.bool b)) (decide_eq_true (by omega)).symm | exact congrArg (fun b => some (Value.bool b)) (decide_eq_false (by omega)).symm | exact congrArg (fun b => some (Value.bool b)) (decide_eq_decide.2 (by omega))), trivial⟩
   case perm =>
    exact .refl _
   case facts => exact fun _ h => h
   case inv =>
    trivial
  ·skip
   refine l_g (j := 2) rfl rfl (by decide) (p_move rfl).q ?_
   first | refine l_g (j := 2) rfl rfl (by decide) (r_loada Try.underlying26 rfl inf_26 rfl (by first | exact .fact (by repeat constructor) | exact .own (by repeat constructor) (by decide) (fun _ => rfl)) (by assumption)).q ?_ | refine l_g (j := 2) rfl rfl (by decide) (r_loadow Try.underlying26 rfl inf_26 rfl (by repeat constructor) (by rfl)).q ?_ | refine l_g (j := 2) rfl rfl (by decide) (r_loadoa Try.underlying26 rfl inf_26 rfl (by repeat constructor) (by rfl) (fun j u h => h)).q ?_
   refine l_g (j := 2) rfl rfl (by decide) (q_call call_23 rfl (fun w hs => len_m t w (hs.facts (liesO (t)) (by repeat constructor)).1)) ?_
   first | refine l_g (j := 2) rfl rfl (by decide) (p_geq rfl rfl rfl rfl).q ?_ | refine l_g (j := 2) rfl rfl (by decide) (p_geqi rfl rfl).q ?_
   refine l_q (by decide) (p_pick rfl rfl).q ?_
   refine l_nil ?_
   refine c_join (()) ?inv ?sub ?perm ?facts
   case sub => exact ⟨rfl, rfl, (by first | rfl | exact congrArg (fun b => some (Value.bool b)) (decide_eq_true (by omega)).symm | exact congrArg (fun b => some (Value.bool b)) (decide_eq_false (by omega)).symm | exact congrArg (fun b => some (Value.bool b)) (decide_eq_decide.2 (by omega))), trivial⟩
   case perm =>
    exact .refl _
   case facts => exact fun _ h => h
   case inv =>
    trivial
 rintro uu hmeet
 show Cont _ _ _ _ [(1, .int .i64 x), (2, .pointer (some ⟨b2, 0, none⟩)), (14, .bool (decide (¬ (0 ≤ x ∧ x < ((szO t : Nat) : Int)))))] ([iCells b2 26 [ptrO t]]) [liesO t]
 first | refine c_dec rfl (fun h14 => ?_) (fun h14 => ?_) | refine c_cond rfl (fun h14 => ?_) (fun h14 => ?_)
 ·skip
  refine c_seq ?_
  refine c_reg ?_
  refine l_q (by decide) (p_assign (v := .int .u8 ((0 : Nat) : Int)) rfl).q ?_
  refine l_q (by decide) (p_assign (v := .int .i64 ((2 : Nat) : Int)) rfl).q ?_
  refine l_nil ?_
  refine c_ret ?_
  refine c_ret2 rfl rfl rfl (fun w hs => ?_)
  exact ⟨by rw [bytT_neg (s := txO t) h14]; rfl, hs.ext⟩
 ·skip
  have hfit : (0 ≤ x ∧ x < ((szO t : Nat) : Int)) := by omega
  clear h14
  obtain ⟨x, rfl⟩ := Int.eq_ofNat_of_zero_le hfit.1
  obtain ⟨t0, ht0⟩ : ∃ t2, t = some t2 := by
    cases t with
    | none => have : szO none = 0 := rfl; omega
    | some t => exact ⟨t, rfl⟩
  refine c_skip ?_
  refine c_seq ?_
  refine c_reg ?_
  first | refine l_q (by decide) (p_faddr (i := 0) 0 Try.underlying26 rfl inf_24 (by decide) rfl rfl).q ?_ | refine l_q (by decide) (p_faddro (i := 0) 0 Try.underlying26 rfl inf_24 (by decide) rfl rfl).q ?_
  first | refine l_q (by decide) (r_loado Try.underlying24 rfl rfl (by repeat constructor) (by rfl)).q ?_ | refine l_q (by decide) (r_load1 Try.underlying24 rfl rfl (by first | exact .fact (by repeat constructor) | exact .own (by repeat constructor) (by decide) (fun _ => rfl)) (by first | assumption | rfl) (by rfl)).q ?_ | refine l_q (by decide) (r_loadf Try.underlying24 rfl rfl (by first | exact .fact (by repeat constructor) | exact .own (by repeat constructor) (by decide) (fun _ => rfl)) (by assumption) (by rfl)).q ?_
  refine l_q (by decide) (p_assign rfl).q ?_
  refine l_nil ?_
  refine c_seq ?_
  refine c_block ?_
  refine c_loop (S := T × Nat × Nat) (fun zs => zs.2.1 < zs.1.pl.size ∧ zs.1.pl.text[zs.2.1]? = (txO t)[x]? ∧ zs.1.pl.size ≤ 16000 ∧ zs.2.2 = zs.1.blocks.length) (fun zs => zs.2.2) (fun zs => [(1, .int .i64 (zs.2.1 : Int)), (6, ptrO (some zs.1))]) (fun zs => [iCells b2 26 [ptrO t]]) (fun zs => [liesO (some zs.1)]) (t0, x, t0.blocks.length) ?_ ?_ ?_ ?_ ?_
  · show (x) < (t0).pl.size ∧ (t0).pl.text[(x)]? = (txO t)[x]? ∧ (t0).pl.size ≤ 16000 ∧ (t0.blocks.length) = (t0).blocks.length
    exact ⟨by have := szO_some t0; rw [← ht0] at this; omega, by rw [ht0]; rfl, by have := szO_some t0; rw [← ht0] at this; omega, rfl⟩
  · exact ⟨rfl, (by rw [← ht0]; rfl), trivial⟩
  · exact .refl _
  · rw [ht0]; exact fun _ h => h
  rintro ⟨cur, k, q⟩ hinv
  have hinv : k < cur.pl.size ∧ cur.pl.text[k]? = (txO t)[x]? ∧ cur.pl.size ≤ 16000 ∧ q = cur.blocks.length := hinv
  have hI := hinv
  show Cont _ _ _ _ [(1, .int .i64 (k : Int)), (6, ptrO (some cur))] ([iCells b2 26 [ptrO t]]) [liesO (some cur)]
  refine c_seq ?_
  refine c_seq ?_
  refine c_reg ?_
  refine l_q (by decide) (p_move rfl).q ?_
  refine l_q (by decide) (p_nilp rfl).q ?_
  first | refine l_q (by decide) (p_faddr (i := 1) 1 Try.underlying64 rfl inf_24 (by decide) rfl rfl).q ?_ | refine l_q (by decide) (p_faddro (i := 1) 1 Try.underlying64 rfl inf_24 (by decide) rfl rfl).q ?_
  refine l_q (by decide) (r_loadq (q := liesO (some (cur))) Try.underlying24 rfl rfl (by repeat constructor) (fun w h => T.c1 h)).q ?_
  first | refine l_q (by decide) (p_neqpn Try.underlying24 rfl rfl).q ?_ | refine l_q (by decide) (p_neqps Try.underlying24 inf_64 rfl rfl).q ?_
  refine l_nil ?_
  first | refine c_dec rfl (fun h21 => ?_) (fun h21 => ?_) | refine c_cond rfl (fun h21 => ?_) (fun h21 => ?_)
  ·skip
   obtain ⟨bt, lt, rt, rfl⟩ : ∃ bt lt rt, cur = T.node bt lt rt := by cases cur <;> simp_all [adO, T.lft]
   have hsn : (T.node bt lt rt).pl.size = lt.pl.size + rt.pl.size := T.size_node _ _
   have hI1 : k < (T.node bt lt rt).pl.size := hI.1
   have hI4 : (T.node bt lt rt).pl.size ≤ 16000 := hI.2.2.1
   have hI5 : q = (T.node bt lt rt).blocks.length := hI.2.2.2
   simp only [T.blocks, List.length_cons, List.length_append] at hI5
   have hI2 : (lt.pl.text ++ rt.pl.text)[k]? = (txO t)[x]? := hI.2.1
   refine c_facts _ (fun w hs => T.open hs (by repeat constructor)) ?_
   refine c_skip ?_
   refine c_block ?_
   refine c_seq ?_
   refine c_reg ?_
   refine l_q (by decide) (p_move rfl).q ?_
   refine l_q (by decide) (p_move rfl).q ?_
   refine l_q (by decide) (p_nilp rfl).q ?_
   first | refine l_q (by decide) (p_faddr (i := 1) 1 Try.underlying64 rfl inf_24 (by decide) rfl rfl).q ?_ | refine l_q (by decide) (p_faddro (i := 1) 1 Try.underlying64 rfl inf_24 (by decide) rfl rfl).q ?_
   refine l_q (by decide) (r_loadq (q := liesO (some (T.node bt lt rt))) Try.underlying24 rfl rfl (by repeat constructor) (fun w h => T.c1 h)).q ?_
   refine l_q (by decide) (p_nilp rfl).q ?_
   first | refine l_q (by decide) (p_faddr (i := 3) 3 Try.underlying64 rfl inf_3 (by decide) rfl rfl).q ?_ | refine l_q (by decide) (p_faddro (i := 3) 3 Try.underlying64 rfl inf_3 (by decide) rfl rfl).q ?_
   refine l_q (by decide) (r_loadq (q := liesO (some (lt))) Try.underlying3 rfl rfl (by repeat constructor) (fun w h => T.c3 h)).q ?_
   first | refine l_q (by decide) (p_lss rfl rfl rfl rfl).q ?_ | refine l_q (by decide) (p_lssi rfl rfl).q ?_
   refine l_nil ?_
   first | refine c_dec rfl (fun h30 => ?_) (fun h30 => ?_) | refine c_cond rfl (fun h30 => ?_) (fun h30 => ?_)
   ·skip
    refine c_reg ?_
    refine l_q (by decide) (p_move rfl).q ?_
    refine l_q (by decide) (p_nilp rfl).q ?_
    first | refine l_q (by decide) (p_faddr (i := 1) 1 Try.underlying64 rfl inf_24 (by decide) rfl rfl).q ?_ | refine l_q (by decide) (p_faddro (i := 1) 1 Try.underlying64 rfl inf_24 (by decide) rfl rfl).q ?_
    refine l_q (by decide) (r_loadq (q := liesO (some (T.node bt lt rt))) Try.underlying24 rfl rfl (by repeat constructor) (fun w h => T.c1 h)).q ?_
    refine l_q (by decide) (p_assign rfl).q ?_
    refine l_nil ?_
    refine c_join ((lt), (k), (lt.blocks.length)) ?_ ?_ ?_ ?_
    ·show ((k) < (lt).pl.size ∧ (lt).pl.text[(k)]? = (txO t)[x]? ∧ (lt).pl.size ≤ 16000 ∧ (lt.blocks.length) = (lt).blocks.length) ∧ (lt.blocks.length) < q
     exact ⟨⟨h30, at_left hI2 h30, by omega, rfl⟩, by omega⟩
    · exact ⟨rfl, rfl, trivial⟩
    ·show List.Perm _ ([iCells b2 26 [ptrO t]])
     exact .refl _
    · (intro p hp; rw [List.mem_singleton.1 hp]; repeat constructor)
   ·skip
    refine c_draw mixed (by decide +kernel) ?_
    refine q_q (by decide) (p_move rfl).q ?_
    refine q_q (by decide) (p_move rfl).q ?_
    refine q_q (by decide) (p_nilp rfl).q ?_
    first | refine q_q (by decide) (p_faddr (i := 1) 1 Try.underlying64 rfl inf_24 (by decide) rfl rfl).q ?_ | refine q_q (by decide) (p_faddro (i := 1) 1 Try.underlying64 rfl inf_24 (by decide) rfl rfl).q ?_
    refine q_q (by decide) (r_loadq (q := liesO (some (T.node bt lt rt))) Try.underlying24 rfl rfl (by repeat constructor) (fun w h => T.c1 h)).q ?_
    refine q_q (by decide) (p_nilp rfl).q ?_
    first | refine q_q (by decide) (p_faddr (i := 3) 3 Try.underlying64 rfl inf_3 (by decide) rfl rfl).q ?_ | refine q_q (by decide) (p_faddro (i := 3) 3 Try.underlying64 rfl inf_3 (by decide) rfl rfl).q ?_
    refine q_q (by decide) (r_loadq (q := liesO (some (lt))) Try.underlying3 rfl rfl (by repeat constructor) (fun w h => T.c3 h)).q ?_
    first | refine q_q (by decide) (p_sub rfl rfl rfl rfl (by omega) (by show _ ≤ (9223372036854775807 : Nat); omega)).q ?_ | refine q_q (by decide) (p_subi rfl rfl (by show (-9223372036854775808 : Int) ≤ _; omega) (by show _ ≤ ((9223372036854775807 : Nat) : Int); omega)).q ?_
    refine q_q (by decide) (p_move rfl).q ?_
    refine q_q (by decide) (p_nilp rfl).q ?_
    first | refine q_q (by decide) (p_faddr (i := 2) 2 Try.underlying64 rfl inf_24 (by decide) rfl rfl).q ?_ | refine q_q (by decide) (p_faddro (i := 2) 2 Try.underlying64 rfl inf_24 (by decide) rfl rfl).q ?_
    refine q_q (by decide) (r_loadq (q := liesO (some (T.node bt lt rt))) Try.underlying24 rfl rfl (by repeat constructor) (fun w h => T.c2 h)).q ?_
    refine q_q (by decide) (p_assign rfl).q ?_
    refine q_q (by decide) (p_assign rfl).q ?_
    refine q_nil ?_
    refine c_join ((rt), (k - lt.pl.size), (rt.blocks.length)) ?_ ?_ ?_ ?_
    ·show ((k - lt.pl.size) < (rt).pl.size ∧ (rt).pl.text[(k - lt.pl.size)]? = (txO t)[x]? ∧ (rt).pl.size ≤ 16000 ∧ (rt.blocks.length) = (rt).blocks.length) ∧ (rt.blocks.length) < q
     exact ⟨⟨by omega, at_right hI2 h30, by omega, rfl⟩, by omega⟩
    · exact ⟨rfl, rfl, trivial⟩
    ·show List.Perm _ ([iCells b2 26 [ptrO t]])
     exact .refl _
    · (intro p hp; rw [List.mem_singleton.1 hp]; repeat constructor)
  ·skip
   obtain ⟨bt, st, rfl⟩ : ∃ bt st, cur = T.leaf bt st := by cases cur <;> simp_all [adO, T.lft]
   obtain ⟨u, hu⟩ : ∃ u, st[k]? = some u := ⟨_, List.getElem?_eq_getElem hI.1⟩
   have hux : (txO t)[x]? = some u := hI.2.1.symm.trans hu
   refine c_exit ?_
   refine c_here ?_
   refine c_seq ?_
   refine c_reg ?_
   refine l_q (by decide) (p_move rfl).q ?_
   refine l_q (by decide) (p_nilp rfl).q ?_
   first | refine l_q (by decide) (p_faddr (i := 0) 0 Try.underlying64 rfl inf_9 (by decide) rfl rfl).q ?_ | refine l_q (by decide) (p_faddro (i := 0) 0 Try.underlying64 rfl inf_9 (by decide) rfl rfl).q ?_
   refine l_q (by decide) (((r_loadq (q := liesO (some (T.leaf bt st))) Try.underlying9 rfl rfl (by repeat constructor) (fun w h => T.c0 h))).to (u := str st) (rfl)).q ?_
   refine l_q (by decide) (p_move rfl).q ?_
   first | refine l_q (by decide) (p_index_str Try.underlying9 rfl rfl rfl (by assumption)).q ?_ | refine l_q (by decide) (p_index_str Try.underlying9 rfl rfl rfl (by simp; rfl)).q ?_
   refine l_q (by decide) (p_assign rfl).q ?_
   refine l_q (by decide) (p_assign (v := .int .i64 ((0 : Nat) : Int)) rfl).q ?_
   refine l_nil ?_
   refine c_ret ?_
   refine c_ret2 rfl rfl rfl (fun w hs => ?_)
   exact ⟨by rw [bytT_pos hux]; rfl, hs.ext⟩

theorem holds_ok (t : Option T) (s : List UInt8) (hg : Rope.GoodO (plO t)) (htx : txO t = s) (hl : s.length ≤ 16000) (w : World) (h : liesO t w) :
   Calls Try.prog 12 #[.agg #[ptrO t], str s] w (Ret fun v w' => v = .bool true ∧ Ext [] w w') := by
 have hsz : szO t = s.length := congrArg List.length htx
 have hbd := height_le hg
 rw [hsz] at hbd
 refine calls_fx (l := [.agg #[ptrO t], str s]) Try.func12 rfl Try.ntmps12 (Nat.le_of_ble_eq_true rfl) (startO h) ?_
 refine c_seq ?_
 refine c_reg ?_
 refine l_box (by decide) rfl _ rfl (fun b2 => ?_)
 refine l_q (by decide) (p_assign rfl).q ?_
 refine l_nil ?_
 refine c_seq ?_
 refine c_reg ?_
 first | refine l_q (by decide) (r_loada Try.underlying26 rfl inf_26 rfl (by first | exact .fact (by repeat constructor) | exact .own (by repeat constructor) (by decide) (fun _ => rfl)) (by assumption)).q ?_ | refine l_q (by decide) (r_loadow Try.underlying26 rfl inf_26 rfl (by repeat constructor) (by rfl)).q ?_ | refine l_q (by decide) (r_loadoa Try.underlying26 rfl inf_26 rfl (by repeat constructor) (by rfl) (fun j u h => h)).q ?_
 refine l_q (by decide) (q_call call_23 rfl (fun w hs => len_m t w (hs.facts (liesO (t)) (by repeat constructor)).1)) ?_
 refine l_q (by decide) (p_move rfl).q ?_
 refine l_q (by decide) (p_len_str Try.underlying9 rfl).q ?_
 first | refine l_q (by decide) (((p_eql rfl rfl rfl rfl)).to (u := .bool true) (by rw [decide_eq_true (hsz)])).q ?_ | refine l_q (by decide) (((p_eqli rfl rfl)).to (u := .bool true) (by rw [decide_eq_true (hsz)])).q ?_
 refine l_q (by decide) (p_move rfl).q ?_
 first | refine l_g (j := 5) rfl rfl (by decide) (r_loada Try.underlying26 rfl inf_26 rfl (by first | exact .fact (by repeat constructor) | exact .own (by repeat constructor) (by decide) (fun _ => rfl)) (by assumption)).q ?_ | refine l_g (j := 5) rfl rfl (by decide) (r_loadow Try.underlying26 rfl inf_26 rfl (by repeat constructor) (by rfl)).q ?_ | refine l_g (j := 5) rfl rfl (by decide) (r_loadoa Try.underlying26 rfl inf_26 rfl (by repeat constructor) (by rfl) (fun j u h => h)).q ?_
 refine l_g (j := 5) rfl rfl (by decide) (q_call call_22 rfl (fun w hs => string_m t (by omega) w (hs.facts (liesO (t)) (by repeat constructor)).1)) ?_
 refine l_g (j := 5) rfl rfl (by decide) (p_move rfl).q ?_
 refine l_g (j := 5) rfl rfl (by decide) (((p_eqs rfl rfl)).to (u := .bool true) (by rw [decide_eq_true (htx)])).q ?_
 refine l_q (by decide) (p_pick rfl rfl).q ?_
 refine l_q (by decide) (p_move rfl).q ?_
 first | refine l_g (j := 11) rfl rfl (by decide) (r_loada Try.underlying26 rfl inf_26 rfl (by first | exact .fact (by repeat constructor) | exact .own (by repeat constructor) (by decide) (fun _ => rfl)) (by assumption)).q ?_ | refine l_g (j := 11) rfl rfl (by decide) (r_loadow Try.underlying26 rfl inf_26 rfl (by repeat constructor) (by rfl)).q ?_ | refine l_g (j := 11) rfl rfl (by decide) (r_loadoa Try.underlying26 rfl inf_26 rfl (by repeat constructor) (by rfl) (fun j u h => h)).q ?_
 refine l_g (j := 11) rfl rfl (by decide) (q_call call_24 rfl (fun w hs => height_m t w (hs.facts (liesO (t)) (by repeat constructor)).1)) ?_
 first | refine l_g (j := 11) rfl rfl (by decide) (((p_geq (j := 0) rfl rfl rfl rfl)).to (u := .bool true) (by rw [decide_eq_true (Nat.zero_le _)])).q ?_ | refine l_g (j := 11) rfl rfl (by decide) (((p_geqi rfl rfl)).to (u := .bool true) (by rw [decide_eq_true (Nat.zero_le _)])).q ?_
 refine l_q (by decide) (p_pick rfl rfl).q ?_
 refine l_q (by decide) (p_move rfl).q ?_
 first | refine l_g (j := 16) rfl rfl (by decide) (r_loada Try.underlying26 rfl inf_26 rfl (by first | exact .fact (by repeat constructor) | exact .own (by repeat constructor) (by decide) (fun _ => rfl)) (by assumption)).q ?_ | refine l_g (j := 16) rfl rfl (by decide) (r_loadow Try.underlying26 rfl inf_26 rfl (by repeat constructor) (by rfl)).q ?_ | refine l_g (j := 16) rfl rfl (by decide) (r_loadoa Try.underlying26 rfl inf_26 rfl (by repeat constructor) (by rfl) (fun j u h => h)).q ?_
 refine l_g (j := 16) rfl rfl (by decide) (q_call call_24 rfl (fun w hs => height_m t w (hs.facts (liesO (t)) (by repeat constructor)).1)) ?_
 refine l_g (j := 16) rfl rfl (by decide) (p_move rfl).q ?_
 refine l_g (j := 16) rfl rfl (by decide) (p_len_str Try.underlying9 rfl).q ?_
 refine l_g (j := 16) rfl rfl (by decide) (q_call call_25 rfl (fun w hs => refbound_ok s.length hl w)) ?_
 first | refine l_g (j := 16) rfl rfl (by decide) (((p_leq rfl rfl rfl rfl)).to (u := .bool true) (by rw [decide_eq_true (hbd)])).q ?_ | refine l_g (j := 16) rfl rfl (by decide) (((p_leqi rfl rfl)).to (u := .bool true) (by rw [decide_eq_true (hbd)])).q ?_
 refine l_q (by decide) (p_pick rfl rfl).q ?_
 refine l_q (by decide) (p_assign rfl).q ?_
 refine l_nil ?_
 refine c_ret ?_
 refine c_ret1 rfl rfl (fun w hs => ?_)
 exact ⟨rfl, hs.ext⟩

theorem awake_ok (w : World) :
   Calls Try.prog 11 #[] w (Ret fun v w' => v = .bool true ∧ Ext [] w w') := by
 refine calls_fx (l := []) Try.func11 rfl Try.ntmps11 (Nat.le_of_ble_eq_true rfl) (St.start w) ?_
 refine c_seq ?_
 refine c_reg ?_
 refine l_q (by decide) (p_assign rfl).q ?_
 refine l_nil ?_
 refine c_seq ?_
 refine c_reg ?_
 refine l_callf [] (X := TO (Rope.build [104, 101, 108, 108, 111])) (fun x => .agg #[ptrO x.1]) (fun x => [liesO x.1]) (by decide) call_13 rfl (fun _ h => by cases h) (fun w hs => new_ok [104, 101, 108, 108, 111] (by decide) _ w hs) (fun x8 => ?_)
 have hx8 := TO.text x8.2
 rw [Rope.build_text] at hx8
 refine l_q (by decide) (p_build (cells := #[_, _, _]) inf_32 pl_32 rfl rfl).q ?_
 refine l_callf [liesO x8.1] (X := RP x8.1 1 2 [97]) (fun p => .tuple #[.agg #[ptrO p.1.1], .int .i64 p.1.2]) (fun p => [liesO p.1.1]) (by decide) call_15 rfl (by intro p hp; simp only [List.mem_cons, List.not_mem_nil, or_false] at hp; rcases hp with rfl <;> repeat constructor) (fun w hs => replace_ok x8.1 1 2 [97] (TO.good x8.2 (Rope.build_good _)) (by have := congrArg List.length hx8; simp only [List.length_cons, List.length_nil] at this; show (txO x8.1).length ≤ _; omega) (by decide) _ w hs) (fun p10 => ?_)
 refine l_q (by decide) (p_move rfl).q ?_
 refine l_q (by decide) (p_extract rfl rfl).q ?_
 refine l_q (by decide) (p_extract rfl rfl).q ?_
 refine l_alloc (by decide) inf_26 _ rfl (fun b1 => ?_)
 first | (refine l_storew inf_26 rfl rfl rfl rfl rfl ?_) | (refine l_perm (front1 _ _ _) ?_; refine l_storew inf_26 rfl rfl rfl rfl rfl ?_) | (refine l_perm (front2 _ _ _ _) ?_; refine l_storew inf_26 rfl rfl rfl rfl rfl ?_) | (refine l_perm (front3 _ _ _ _ _) ?_; refine l_storew inf_26 rfl rfl rfl rfl rfl ?_) | (refine l_perm (front4 _ _ _ _ _ _) ?_; refine l_storew inf_26 rfl rfl rfl rfl rfl ?_) | (refine l_storea inf_26 rfl rfl rfl rfl (by decide) ?_) | (refine l_perm (front1 _ _ _) ?_; refine l_storea inf_26 rfl rfl rfl rfl (by decide) ?_) | (refine l_perm (front2 _ _ _ _) ?_; refine l_storea inf_26 rfl rfl rfl rfl (by decide) ?_)
 refine l_q (by decide) (p_assign rfl).q ?_
 refine l_nil ?_
 refine c_seq ?_
 refine c_reg ?_
 have hp1 : txO p10.1.1 = [104, 97, 108, 111] := by rw [p10.2.2.1, hx8]; decide
 have hp2 : p10.1.2 = 0 := by rw [p10.2.2.2, hx8]; decide
 have hps : szO p10.1.1 = 4 := congrArg List.length hp1
 first | refine l_q (by decide) (r_loada Try.underlying26 rfl inf_26 rfl (by first | exact .fact (by repeat constructor) | exact .own (by repeat constructor) (by decide) (fun _ => rfl)) (by assumption)).q ?_ | refine l_q (by decide) (r_loadow Try.underlying26 rfl inf_26 rfl (by repeat constructor) (by rfl)).q ?_ | refine l_q (by decide) (r_loadoa Try.underlying26 rfl inf_26 rfl (by repeat constructor) (by rfl) (fun j u h => h)).q ?_
 refine l_q (by decide) (q_call call_17 rfl (fun w hs => slice_m p10.1.1 1 3 p10.2.1 (by omega) w (hs.facts (liesO (p10.1.1)) (by repeat constructor)).1)) ?_
 refine l_q (by decide) (p_move rfl).q ?_
 refine l_q (by decide) (p_extract rfl rfl).q ?_
 refine l_q (by decide) (p_extract rfl rfl).q ?_
 refine l_q (by decide) (p_assign rfl).q ?_
 refine l_q (by decide) (p_assign rfl).q ?_
 refine l_nil ?_
 refine c_seq ?_
 refine c_reg ?_
 first | refine l_q (by decide) (r_loada Try.underlying26 rfl inf_26 rfl (by first | exact .fact (by repeat constructor) | exact .own (by repeat constructor) (by decide) (fun _ => rfl)) (by assumption)).q ?_ | refine l_q (by decide) (r_loadow Try.underlying26 rfl inf_26 rfl (by repeat constructor) (by rfl)).q ?_ | refine l_q (by decide) (r_loadoa Try.underlying26 rfl inf_26 rfl (by repeat constructor) (by rfl) (fun j u h => h)).q ?_
 refine l_q (by decide) (q_call call_19 rfl (fun w hs => byte_m p10.1.1 4 (by omega) w (hs.facts (liesO (p10.1.1)) (by repeat constructor)).1)) ?_
 refine l_q (by decide) (p_move rfl).q ?_
 refine l_q (by decide) (p_extract rfl rfl).q ?_
 refine l_q (by decide) (p_extract rfl rfl).q ?_
 refine l_q (by decide) (p_assign rfl).q ?_
 refine l_q (by decide) (p_assign rfl).q ?_
 refine l_nil ?_
 refine c_seq ?_
 refine c_reg ?_
 refine l_q (by decide) (p_move rfl).q ?_
 first | refine l_q (by decide) (((p_eql (j := 0) rfl rfl rfl rfl)).to (u := .bool true) (by rw [decide_eq_true (hp2)])).q ?_ | refine l_q (by decide) (((p_eqli rfl rfl)).to (u := .bool true) (by rw [decide_eq_true (hp2)])).q ?_
 refine l_q (by decide) (p_move rfl).q ?_
 first | refine l_g (j := 2) rfl rfl (by decide) (r_loada Try.underlying26 rfl inf_26 rfl (by first | exact .fact (by repeat constructor) | exact .own (by repeat constructor) (by decide) (fun _ => rfl)) (by assumption)).q ?_ | refine l_g (j := 2) rfl rfl (by decide) (r_loadow Try.underlying26 rfl inf_26 rfl (by repeat constructor) (by rfl)).q ?_ | refine l_g (j := 2) rfl rfl (by decide) (r_loadoa Try.underlying26 rfl inf_26 rfl (by repeat constructor) (by rfl) (fun j u h => h)).q ?_
 refine l_g (j := 2) rfl rfl (by decide) (q_call call_22 rfl (fun w hs => string_m p10.1.1 (by omega) w (hs.facts (liesO (p10.1.1)) (by repeat constructor)).1)) ?_
 refine l_g (j := 2) rfl rfl (by decide) (((p_eqs rfl rfl)).to (u := .bool true) (by rw [decide_eq_true (hp1)])).q ?_
 refine l_q (by decide) (p_pick rfl rfl).q ?_
 refine l_q (by decide) (p_move rfl).q ?_
 first | refine l_g (j := 7) rfl rfl (by decide) (r_loada Try.underlying26 rfl inf_26 rfl (by first | exact .fact (by repeat constructor) | exact .own (by repeat constructor) (by decide) (fun _ => rfl)) (by assumption)).q ?_ | refine l_g (j := 7) rfl rfl (by decide) (r_loadow Try.underlying26 rfl inf_26 rfl (by repeat constructor) (by rfl)).q ?_ | refine l_g (j := 7) rfl rfl (by decide) (r_loadoa Try.underlying26 rfl inf_26 rfl (by repeat constructor) (by rfl) (fun j u h => h)).q ?_
 refine l_g (j := 7) rfl rfl (by decide) (q_call call_23 rfl (fun w hs => len_m p10.1.1 w (hs.facts (liesO (p10.1.1)) (by repeat constructor)).1)) ?_
 first | refine l_g (j := 7) rfl rfl (by decide) (((p_eql (j := 4) rfl rfl rfl rfl)).to (u := .bool true) (by rw [decide_eq_true (hps)])).q ?_ | refine l_g (j := 7) rfl rfl (by decide) (((p_eqli rfl rfl)).to (u := .bool true) (by rw [decide_eq_true (hps)])).q ?_
 refine l_q (by decide) (p_pick rfl rfl).q ?_
 refine l_q (by decide) (p_move rfl).q ?_
 refine l_g (j := 12) rfl rfl (by decide) (p_move rfl).q ?_
 first | refine l_g (j := 12) rfl rfl (by decide) (((p_eql (j := 0) rfl rfl rfl rfl)).to (u := .bool true) (by rw [decide_eq_true (by rw [hp1]; decide)])).q ?_ | refine l_g (j := 12) rfl rfl (by decide) (((p_eqli rfl rfl)).to (u := .bool true) (by rw [decide_eq_true (by rw [hp1]; decide)])).q ?_
 refine l_q (by decide) (p_pick rfl rfl).q ?_
 refine l_q (by decide) (p_move rfl).q ?_
 refine l_g (j := 16) rfl rfl (by decide) (p_move rfl).q ?_
 refine l_g (j := 16) rfl rfl (by decide) (((p_eqs rfl rfl)).to (u := .bool true) (by rw [decide_eq_true (by rw [hp1]; decide)])).q ?_
 refine l_q (by decide) (p_pick rfl rfl).q ?_
 refine l_q (by decide) (p_move rfl).q ?_
 refine l_g (j := 20) rfl rfl (by decide) (p_move rfl).q ?_
 first | refine l_g (j := 20) rfl rfl (by decide) (((p_eql (j := 2) rfl rfl rfl rfl)).to (u := .bool true) (by rw [decide_eq_true (by rw [hp1]; decide)])).q ?_ | refine l_g (j := 20) rfl rfl (by decide) (((p_eqli rfl rfl)).to (u := .bool true) (by rw [decide_eq_true (by rw [hp1]; decide)])).q ?_
 refine l_q (by decide) (p_pick rfl rfl).q ?_
 refine l_q (by decide) (p_move rfl).q ?_
 first | refine l_g (j := 24) rfl rfl (by decide) (r_loada Try.underlying26 rfl inf_26 rfl (by first | exact .fact (by repeat constructor) | exact .own (by repeat constructor) (by decide) (fun _ => rfl)) (by assumption)).q ?_ | refine l_g (j := 24) rfl rfl (by decide) (r_loadow Try.underlying26 rfl inf_26 rfl (by repeat constructor) (by rfl)).q ?_ | refine l_g (j := 24) rfl rfl (by decide) (r_loadoa Try.underlying26 rfl inf_26 rfl (by repeat constructor) (by rfl) (fun j u h => h)).q ?_
 refine l_g (j := 24) rfl rfl (by decide) (q_call call_24 rfl (fun w hs => height_m p10.1.1 w (hs.facts (liesO (p10.1.1)) (by repeat constructor)).1)) ?_
 first | refine l_g (j := 24) rfl rfl (by decide) (((p_eql (j := 0) rfl rfl rfl rfl)).to (u := .bool true) (by rw [decide_eq_true (height_0 p10.2.1 (by omega))])).q ?_ | refine l_g (j := 24) rfl rfl (by decide) (((p_eqli rfl rfl)).to (u := .bool true) (by rw [decide_eq_true (height_0 p10.2.1 (by omega))])).q ?_
 refine l_q (by decide) (p_pick rfl rfl).q ?_
 refine l_q (by decide) (p_move rfl).q ?_
 first | refine l_g (j := 29) rfl rfl (by decide) (r_loada Try.underlying26 rfl inf_26 rfl (by first | exact .fact (by repeat constructor) | exact .own (by repeat constructor) (by decide) (fun _ => rfl)) (by assumption)).q ?_ | refine l_g (j := 29) rfl rfl (by decide) (r_loadow Try.underlying26 rfl inf_26 rfl (by repeat constructor) (by rfl)).q ?_ | refine l_g (j := 29) rfl rfl (by decide) (r_loadoa Try.underlying26 rfl inf_26 rfl (by repeat constructor) (by rfl) (fun j u h => h)).q ?_
 first | refine l_g (j := 29) rfl rfl (by decide) (r_loada Try.underlying26 rfl inf_26 rfl (by first | exact .fact (by repeat constructor) | exact .own (by repeat constructor) (by decide) (fun _ => rfl)) (by assumption)).q ?_ | refine l_g (j := 29) rfl rfl (by decide) (r_loadow Try.underlying26 rfl inf_26 rfl (by repeat constructor) (by rfl)).q ?_ | refine l_g (j := 29) rfl rfl (by decide) (r_loadoa Try.underlying26 rfl inf_26 rfl (by repeat constructor) (by rfl) (fun j u h => h)).q ?_
 refine l_strip (j := 29) rfl rfl ?_
 refine l_callf [liesO p10.1.1, liesO p10.1.1] (X := TO (Rope.join (plO p10.1.1) (plO p10.1.1))) (fun x => .agg #[ptrO x.1]) (fun x => [liesO x.1]) (by decide) call_14 rfl (by intro p hp; simp only [List.mem_cons, List.not_mem_nil, or_false] at hp; rcases hp with rfl | rfl <;> repeat constructor) (fun w hs => concat_ok p10.1.1 p10.1.1 p10.2.1 p10.2.1 (by omega) _ w hs) (fun x55 => ?_)
 have h55 : txO x55.1 = [104, 97, 108, 111, 104, 97, 108, 111] := by rw [joined_text x55.2 rfl rfl, show Rope.textO (plO p10.1.1) = [104, 97, 108, 111] from hp1]; rfl
 have hs55 : szO x55.1 = 8 := congrArg List.length h55
 refine l_g (j := 29) rfl rfl (by decide) (q_call call_22 rfl (fun w hs => string_m x55.1 (by omega) w (hs.facts (liesO (x55.1)) (by repeat constructor)).1)) ?_
 refine l_g (j := 29) rfl rfl (by decide) (((p_eqs rfl rfl)).to (u := .bool true) (by rw [decide_eq_true (h55)])).q ?_
 refine l_q (by decide) (p_pick rfl rfl).q ?_
 refine l_q (by decide) (p_assign rfl).q ?_
 refine l_nil ?_
 refine c_ret ?_
 refine c_ret1 rfl rfl (fun w hs => ?_)
 exact ⟨rfl, hs.ext⟩
end Go.Proofs.Ytdpocfkbnfhcfaa
