/- The walks of the off-side rule, fourth part; conditions: lengths. -/
import Derived.Test.YtejhgbnpmelgcaaWalksC
namespace Go.Proofs.Ytejhgbnpmelgcaa
open Go Go.Fx Go.Proofs

/-- where a slice stands, with its capacity -/
abbrev Capd (l : List Lay.T) := { x : Option Addr × Nat // l.length ≤ x.2 }
theorem rep_one {α : Type} (o : List α) (q : Nat) (t : α) : o ++ List.replicate (q + 1) t = o ++ List.replicate q t ++ [t] := rep_more o q t
theorem app_end {l : List Lay.T} {s : List UInt8} {defs : Int} (h : 0 < l.length) : Lay.app l s defs = (Lay.run s defs l).out ++ [Lay.tok defs s.length] ++ List.replicate (Lay.run s defs l).lv.length (Lay.tok (defs + 2) s.length) := by
  unfold Lay.app; rw [if_neg (fun e => by subst e; simp at h)]; simp
theorem app_nil {l : List Lay.T} {s : List UInt8} {defs : Int} (h : ¬ 0 < l.length) : Lay.app l s defs = [] ∧ l = [] := by
  have : l = [] := List.eq_nil_of_length_eq_zero (by omega)
  subst this; exact ⟨rfl, rfl⟩
theorem inf_41 : InfoIs Try.prog 41 3 56 (.agg #[.slice none 0 0, .int .i64 0, .slice none 0 0]) := by unfold InfoIs; kernel_rfl
theorem pl_41 : PlacesIs Try.prog 41 [(0, 1), (1, 1), (2, 1)] := ⟨_, Try.underlying41, by kernel_rfl⟩
theorem call_22 : Callable Try.prog 22 := ⟨_, Try.func22, by kernel_rfl, rfl⟩
theorem call_23 : Callable Try.prog 23 := ⟨_, Try.func23, by kernel_rfl, rfl⟩
theorem apply_ok (A : Option Addr) (c : Nat) (l : List Lay.T) (s : List UInt8) (defs : Int) (hl : l.length ≤ 60) (hs : s.length ≤ 400) (hd1 : 0 ≤ defs) (hd2 : defs ≤ 1000) (hat : ∀ t, t ∈ l → 0 ≤ t.at_ ∧ t.at_ ≤ s.length) (w : World) (hq : Sl 4 tokF A l w) :
    Calls Try.prog 13 #[.slice A l.length c, str s, .int .i64 defs] w (Ret fun v w' => ∃ x : Capd (Lay.app l s defs), v = .slice x.1.1 (Lay.app l s defs).length x.1.2 ∧ Sl 4 tokF x.1.1 (Lay.app l s defs) w' ∧ Dep w.heap.size w'.heap.size (Sl 4 tokF x.1.1 (Lay.app l s defs)) ∧ Ext [] w w') := by
  refine calls_fx (l := [.slice A l.length c, str s, .int .i64 defs]) Try.func13 rfl Try.ntmps13 (Nat.le_of_ble_eq_true rfl) ((St.start w).old hq (dep_sl (by decide) hq)) ?_
  refine c_seq ?_
  refine c_reg ?_
  refine l_q (by decide) (p_assign rfl).q ?_
  refine l_nil ?_
  refine c_seq ?_
  refine c_reg ?_
  refine l_q (by decide) (p_move rfl).q ?_
  refine l_q (by decide) (p_build (cells := #[_, _, _]) inf_41 pl_41 rfl rfl).q ?_
  refine l_box (by decide) rfl _ rfl (fun b14 => ?_)
  refine l_q (by decide) (p_assign rfl).q ?_
  refine l_nil ?_
  refine c_seq ?_
  refine c_reg ?_
  refine l_q (by decide) (p_assign rfl).q ?_
  refine l_nil ?_
  refine c_seq ?_
  refine c_seq ?_
  refine c_reg ?_
  refine l_q (by decide) (p_move rfl).q ?_
  refine l_q (by decide) (p_len_sl Try.underlying22 rfl).q ?_
  refine l_q (by decide) (p_move (v := .int .i64 ((0 : Nat) : Int)) rfl).q ?_
  refine l_nil ?_
  refine c_block ?_
  refine c_sl0 33 4 tokF ?_
  refine c_sl0 3 1 natF ?_
  refine c_loop (S := Nat × Option Addr × Nat × Option Addr × Nat) (fun zs => zs.1 ≤ l.length) (fun zs => l.length - zs.1) (fun zs => [(0, .slice A l.length c), (1, str s), (7, .pointer (some ⟨b14, 0, none⟩)), (8, .int .i64 (Lay.lastV (Lay.run s defs (l.take zs.1)).last)), (15, .slice A l.length c), (16, .int .i64 (l.length : Int)), (17, .int .i64 (zs.1 : Int))]) (fun zs => [iCells b14 41 [.slice zs.2.1 ((Lay.run s defs (l.take zs.1)).out).length zs.2.2.1, .int .i64 defs, .slice zs.2.2.2.1 ((Lay.run s defs (l.take zs.1)).lv).reverse.length zs.2.2.2.2], iSl 33 4 tokF zs.2.1 zs.2.2.1 ((Lay.run s defs (l.take zs.1)).out), iSl 3 1 natF zs.2.2.2.1 zs.2.2.2.2 ((Lay.run s defs (l.take zs.1)).lv).reverse]) (fun zs => [Sl 4 tokF A l]) (0, none, 0, none, 0) ?_ ?_ ?_ ?_ ?_
  · show (0) ≤ l.length
    exact Nat.zero_le _
  · exact ⟨rfl, rfl, rfl, rfl, rfl, rfl, rfl, trivial⟩
  · exact by exact List.Perm.trans (front2 _ _ _ _) (List.Perm.cons _ (front1 _ _ _))
  · simp
  rintro ⟨i, A2, c2, B2, d2⟩ hinv
  have hinv : i ≤ l.length := hinv
  have hi := hinv
  show Cont _ _ _ _ [(0, .slice A l.length c), (1, str s), (7, .pointer (some ⟨b14, 0, none⟩)), (8, .int .i64 (Lay.lastV (Lay.run s defs (l.take i)).last)), (15, .slice A l.length c), (16, .int .i64 (l.length : Int)), (17, .int .i64 (i : Int))] ([iCells b14 41 [.slice A2 ((Lay.run s defs (l.take i)).out).length c2, .int .i64 defs, .slice B2 ((Lay.run s defs (l.take i)).lv).reverse.length d2], iSl 33 4 tokF A2 c2 ((Lay.run s defs (l.take i)).out), iSl 3 1 natF B2 d2 ((Lay.run s defs (l.take i)).lv).reverse]) [Sl 4 tokF A l]
  refine c_seq ?_
  refine c_reg ?_
  first | refine l_q (by decide) (p_lss rfl rfl rfl rfl).q ?_ | refine l_q (by decide) (p_lssi rfl rfl).q ?_
  refine l_nil ?_
  refine c_seq ?_
  first | refine c_dec rfl (fun h18 => ?_) (fun h18 => ?_) | refine c_cond rfl (fun h18 => ?_) (fun h18 => ?_)
  · skip
    obtain ⟨u, hu⟩ := at_some (l := l) (n := i) (by omega)
    have hua := hat u (List.mem_of_getElem? hu)
    obtain ⟨n, hn⟩ := Int.eq_ofNat_of_zero_le hua.1
    have hn2 : u.at_.toNat = n := by omega
    have hst := Lay.start_le s n
    have hrt := Lay.run_take s defs l i u hu
    have hrn := Lay.run_none s defs l i (by omega)
    have hrl := Lay.run_take_len s defs l i
    refine c_skip ?_
    refine c_seq ?_
    refine c_block ?_
    refine c_seq ?_
    refine c_reg ?_
    refine l_q (by decide) (p_move rfl).q ?_
    first | refine l_q (by decide) (r_index Try.underlying22 inf_33 rfl rfl rfl (by first | exact .fact (by repeat (first | exact List.Mem.head _ | apply List.Mem.tail)) | exact .own (by repeat (first | exact List.Mem.head _ | apply List.Mem.tail)) (by decide) (fun _ => rfl)) rfl (by omega)).q ?_ | refine l_q (by decide) (r_index Try.underlying22 inf_33 rfl rfl rfl (by first | exact .fact (by repeat (first | exact List.Mem.head _ | apply List.Mem.tail)) | exact .own (by repeat (first | exact List.Mem.head _ | apply List.Mem.tail)) (by decide) (fun _ => rfl)) rfl (by decide)).q ?_ | refine l_q (by decide) (p_indexo Try.underlying22 inf_33 rfl rfl rfl (by omega)).q ?_
    first | refine l_q (by decide) (r_loada Try.underlying33 rfl inf_33 rfl (by first | exact .fact (by repeat (first | exact List.Mem.head _ | apply List.Mem.tail)) | exact .own (by repeat (first | exact List.Mem.head _ | apply List.Mem.tail)) (by decide) (fun _ => rfl)) (by assumption)).q ?_ | refine l_q (by decide) (r_loadow Try.underlying33 rfl inf_33 rfl (by repeat (first | exact List.Mem.head _ | apply List.Mem.tail)) (by rfl)).q ?_ | refine l_q (by decide) (r_loadoa Try.underlying33 rfl inf_33 rfl (by repeat (first | exact List.Mem.head _ | apply List.Mem.tail)) (by rfl) (fun j u h => h)).q ?_
    refine l_alloc (by decide) inf_33 _ rfl (fun b10 => ?_)
    refine l_q (by decide) (p_assign rfl).q ?_
    first | (refine l_storew inf_33 rfl rfl rfl rfl rfl ?_) | (refine l_perm (front1 _ _ _) ?_; refine l_storew inf_33 rfl rfl rfl rfl rfl ?_) | (refine l_perm (front2 _ _ _ _) ?_; refine l_storew inf_33 rfl rfl rfl rfl rfl ?_) | (refine l_perm (front3 _ _ _ _ _) ?_; refine l_storew inf_33 rfl rfl rfl rfl rfl ?_) | (refine l_perm (front4 _ _ _ _ _ _) ?_; refine l_storew inf_33 rfl rfl rfl rfl rfl ?_) | (refine l_storea inf_33 rfl rfl rfl rfl (by decide) ?_) | (refine l_perm (front1 _ _ _) ?_; refine l_storea inf_33 rfl rfl rfl rfl (by decide) ?_) | (refine l_perm (front2 _ _ _ _) ?_; refine l_storea inf_33 rfl rfl rfl rfl (by decide) ?_)
    refine l_nil ?_
    refine c_seq ?_
    refine c_reg ?_
    refine l_q (by decide) (p_move rfl).q ?_
    first | refine l_q (by decide) (p_faddr (i := 1) 1 Try.underlying33 rfl inf_3 (by decide) rfl rfl).q ?_ | refine l_q (by decide) (p_faddro (i := 1) 1 Try.underlying33 rfl inf_3 (by decide) rfl rfl).q ?_
    first | refine l_q (by decide) (((r_loado Try.underlying3 rfl rfl (by repeat (first | exact List.Mem.head _ | apply List.Mem.tail)) (by rfl))).to (u := .int .i64 (n : Int)) (by rw [hn])).q ?_ | refine l_q (by decide) (((r_load1 Try.underlying3 rfl rfl (by first | exact .fact (by repeat (first | exact List.Mem.head _ | apply List.Mem.tail)) | exact .own (by repeat (first | exact List.Mem.head _ | apply List.Mem.tail)) (by decide) (fun _ => rfl)) (by first | assumption | rfl) (by rfl))).to (u := .int .i64 (n : Int)) (by rw [hn])).q ?_ | refine l_q (by decide) (((r_loadf Try.underlying3 rfl rfl (by first | exact .fact (by repeat (first | exact List.Mem.head _ | apply List.Mem.tail)) | exact .own (by repeat (first | exact List.Mem.head _ | apply List.Mem.tail)) (by decide) (fun _ => rfl)) (by assumption) (by rfl))).to (u := .int .i64 (n : Int)) (by rw [hn])).q ?_
    first | refine l_q (by decide) (p_slice_h Try.underlying9 rfl rfl rfl (by omega)).q ?_ | refine l_q (by decide) (p_slice_h Try.underlying9 rfl rfl rfl (by simp; omega)).q ?_
    refine l_q (by decide) (q_call call_22 rfl (fun w hs => by have := lastbyte_ok (s.take n) (by rw [List.length_take]; omega) w; rw [List.length_take, Nat.min_eq_left (by omega), Lay.start_take] at this; exact this)) ?_
    first | refine l_q (by decide) (((p_add (j := 1) rfl rfl rfl rfl (by show _ ≤ (9223372036854775807 : Nat); omega))).to (u := .int .i64 ((Lay.start s n : Nat) : Int)) (by congr 1; omega)).q ?_ | refine l_q (by decide) (((p_addi rfl rfl (by show (-9223372036854775808 : Int) ≤ _; omega) (by show _ ≤ ((9223372036854775807 : Nat) : Int); omega))).to (u := .int .i64 ((Lay.start s n : Nat) : Int)) (by congr 1; omega)).q ?_
    refine l_q (by decide) (p_assign rfl).q ?_
    refine l_nil ?_
    refine c_seq ?_
    refine c_seq ?_
    refine c_reg ?_
    refine l_q (by decide) (p_move rfl).q ?_
    refine l_q (by decide) (p_move rfl).q ?_
    first | refine l_q (by decide) (((p_neq rfl rfl rfl rfl)).to (u := .bool (decide (¬ (Lay.run s defs (l.take i)).last = some (Lay.start s n)))) (by congr 1; exact decide_eq_decide.2 (Lay.lastV_ne _ _))).q ?_ | refine l_q (by decide) (((p_neqi rfl rfl)).to (u := .bool (decide (¬ (Lay.run s defs (l.take i)).last = some (Lay.start s n)))) (by congr 1; exact decide_eq_decide.2 (Lay.lastV_ne _ _))).q ?_
    refine l_nil ?_
    refine c_meetn (S := List Lay.T × List Nat × Option Addr × Nat × Option Addr × Nat) (fun zs => Lay.run s defs (l.take (i + 1)) = ⟨zs.1 ++ [u], zs.2.1, some (Lay.start s n)⟩) (fun zs => [(0, .slice A l.length c), (1, str s), (7, .pointer (some ⟨b14, 0, none⟩)), (8, .int .i64 (Lay.lastV (some (Lay.start s n)))), (10, .pointer (some ⟨b10, 0, none⟩)), (15, .slice A l.length c), (16, .int .i64 (l.length : Int)), (17, .int .i64 (i : Int))]) (fun zs => [iCells b10 33 (tokF u), iCells b14 41 [.slice zs.2.2.1 (zs.1).length zs.2.2.2.1, .int .i64 defs, .slice zs.2.2.2.2.1 (zs.2.1).reverse.length zs.2.2.2.2.2], iSl 33 4 tokF zs.2.2.1 zs.2.2.2.1 (zs.1), iSl 3 1 natF zs.2.2.2.2.1 zs.2.2.2.2.2 (zs.2.1).reverse]) (fun zs => [Sl 4 tokF A l]) ?_ ?_
    · skip
      first | refine c_dec rfl (fun h30 => ?_) (fun h30 => ?_) | refine c_cond rfl (fun h30 => ?_) (fun h30 => ?_)
      · skip
        refine c_seq ?_
        refine c_reg ?_
        refine l_q (by decide) (p_move rfl).q ?_
        first | refine l_q (by decide) (p_faddr (i := 1) 1 Try.underlying33 rfl inf_3 (by decide) rfl rfl).q ?_ | refine l_q (by decide) (p_faddro (i := 1) 1 Try.underlying33 rfl inf_3 (by decide) rfl rfl).q ?_
        first | refine l_q (by decide) (((r_loado Try.underlying3 rfl rfl (by repeat (first | exact List.Mem.head _ | apply List.Mem.tail)) (by rfl))).to (u := .int .i64 (n : Int)) (by rw [hn])).q ?_ | refine l_q (by decide) (((r_load1 Try.underlying3 rfl rfl (by first | exact .fact (by repeat (first | exact List.Mem.head _ | apply List.Mem.tail)) | exact .own (by repeat (first | exact List.Mem.head _ | apply List.Mem.tail)) (by decide) (fun _ => rfl)) (by first | assumption | rfl) (by rfl))).to (u := .int .i64 (n : Int)) (by rw [hn])).q ?_ | refine l_q (by decide) (((r_loadf Try.underlying3 rfl rfl (by first | exact .fact (by repeat (first | exact List.Mem.head _ | apply List.Mem.tail)) | exact .own (by repeat (first | exact List.Mem.head _ | apply List.Mem.tail)) (by decide) (fun _ => rfl)) (by assumption) (by rfl))).to (u := .int .i64 (n : Int)) (by rw [hn])).q ?_
        first | refine l_q (by decide) (p_faddr (i := 1) 1 Try.underlying33 rfl inf_3 (by decide) rfl rfl).q ?_ | refine l_q (by decide) (p_faddro (i := 1) 1 Try.underlying33 rfl inf_3 (by decide) rfl rfl).q ?_
        first | refine l_q (by decide) (((r_loado Try.underlying3 rfl rfl (by repeat (first | exact List.Mem.head _ | apply List.Mem.tail)) (by rfl))).to (u := .int .i64 (n : Int)) (by rw [hn])).q ?_ | refine l_q (by decide) (((r_load1 Try.underlying3 rfl rfl (by first | exact .fact (by repeat (first | exact List.Mem.head _ | apply List.Mem.tail)) | exact .own (by repeat (first | exact List.Mem.head _ | apply List.Mem.tail)) (by decide) (fun _ => rfl)) (by first | assumption | rfl) (by rfl))).to (u := .int .i64 (n : Int)) (by rw [hn])).q ?_ | refine l_q (by decide) (((r_loadf Try.underlying3 rfl rfl (by first | exact .fact (by repeat (first | exact List.Mem.head _ | apply List.Mem.tail)) | exact .own (by repeat (first | exact List.Mem.head _ | apply List.Mem.tail)) (by decide) (fun _ => rfl)) (by assumption) (by rfl))).to (u := .int .i64 (n : Int)) (by rw [hn])).q ?_
        refine l_q (by decide) (p_move rfl).q ?_
        first | refine l_q (by decide) (p_sub rfl rfl rfl rfl (by omega) (by show _ ≤ (9223372036854775807 : Nat); omega)).q ?_ | refine l_q (by decide) (p_subi rfl rfl (by show (-9223372036854775808 : Int) ≤ _; omega) (by show _ ≤ ((9223372036854775807 : Nat) : Int); omega)).q ?_
        refine l_q (by decide) (p_move rfl).q ?_
        first | refine l_q (by decide) (p_eql (j := 0) rfl rfl rfl rfl).q ?_ | refine l_q (by decide) (p_eqli rfl rfl).q ?_
        refine l_perm (List.perm_append_comm (l₁ := [_]) (l₂ := [_, _, _])) ?_
        refine l_callo (τ := [iCells b14 41 [.slice A2 ((Lay.run s defs (l.take i)).out).length c2, .int .i64 defs, .slice B2 ((Lay.run s defs (l.take i)).lv).reverse.length d2], iSl 33 4 tokF A2 c2 ((Lay.run s defs (l.take i)).out), iSl 3 1 natF B2 d2 ((Lay.run s defs (l.take i)).lv).reverse]) (σ := [iCells b10 33 (tokF u)]) (fun _ => .tuple #[]) (fun x : (Option Addr × Nat) × (Option Addr × Nat) => [iCells b14 41 [.slice x.1.1 ((Lay.run s defs (l.take i)).out ++ Lay.lineT defs n (n - Lay.start s n) (decide (i = 0)) (Lay.run s defs (l.take i)).lv).length x.1.2, .int .i64 defs, .slice x.2.1 (Lay.lineL (n - Lay.start s n) (Lay.run s defs (l.take i)).lv).reverse.length x.2.2], iSl 33 4 tokF x.1.1 x.1.2 ((Lay.run s defs (l.take i)).out ++ Lay.lineT defs n (n - Lay.start s n) (decide (i = 0)) (Lay.run s defs (l.take i)).lv), iSl 3 1 natF x.2.1 x.2.2 (Lay.lineL (n - Lay.start s n) (Lay.run s defs (l.take i)).lv).reverse]) (by decide) call_23 rfl (fun w hs => line_ok b14 c2 d2 n (n - Lay.start s n) (decide (i = 0)) defs A2 B2 ((Lay.run s defs (l.take i)).out) ((Lay.run s defs (l.take i)).lv) (by omega) (by omega) hd1 hd2 (by omega) (by omega) _ _ w hs) (fun x40 => ?_)
        refine l_nil ?_
        refine c_reg ?_
        refine l_q (by decide) (p_move rfl).q ?_
        refine l_q (by decide) (p_assign rfl).q ?_
        refine l_nil ?_
        refine c_join ((Lay.run s defs (l.take i)).out ++ Lay.lineT defs n (n - Lay.start s n) (decide (i = 0)) (Lay.run s defs (l.take i)).lv, Lay.lineL (n - Lay.start s n) (Lay.run s defs (l.take i)).lv, x40.1.1, x40.1.2, x40.2.1, x40.2.2) ?inv ?sub ?perm ?facts
        case sub => exact ⟨rfl, rfl, rfl, rfl, rfl, rfl, rfl, rfl, trivial⟩
        case perm =>
          exact List.perm_append_comm (l₁ := [_, _, _]) (l₂ := [_])
        case facts => exact fun _ h => h
        case inv =>
          rw [hrt, Lay.step_other (by rw [hn2]; exact h30), hn2, hrn]
      · skip
        refine c_skip ?_
        have hlast : (Lay.run s defs (l.take i)).last = some (Lay.start s n) := Classical.not_not.1 h30
        rw [hlast]
        refine c_join ((Lay.run s defs (l.take i)).out, (Lay.run s defs (l.take i)).lv, A2, c2, B2, d2) ?inv ?sub ?perm ?facts
        case sub => exact ⟨rfl, rfl, rfl, rfl, rfl, rfl, rfl, rfl, trivial⟩
        case perm =>
          exact .refl _
        case facts => exact fun _ h => h
        case inv =>
          rw [hrt, Lay.step_same (by rw [hn2]; exact hlast), hlast]
    rintro ⟨o2, lv2, A3, c3, B3, d3⟩ hmeet
    have hmeet : Lay.run s defs (l.take (i + 1)) = ⟨o2 ++ [u], lv2, some (Lay.start s n)⟩ := hmeet
    have hrs := hmeet
    show Cont _ _ _ _ [(0, .slice A l.length c), (1, str s), (7, .pointer (some ⟨b14, 0, none⟩)), (8, .int .i64 (Lay.lastV (some (Lay.start s n)))), (10, .pointer (some ⟨b10, 0, none⟩)), (15, .slice A l.length c), (16, .int .i64 (l.length : Int)), (17, .int .i64 (i : Int))] ([iCells b10 33 (tokF u), iCells b14 41 [.slice A3 (o2).length c3, .int .i64 defs, .slice B3 (lv2).reverse.length d3], iSl 33 4 tokF A3 c3 (o2), iSl 3 1 natF B3 d3 (lv2).reverse]) [Sl 4 tokF A l]
    have hol := Lay.run_take_len s defs l (i + 1)
    rw [hrs] at hol
    simp only [List.length_append, List.length_cons, List.length_nil] at hol
    refine m_draw [7, 10] mixed ?_
    refine m_takep 0 rfl (by kernel_rfl) (by decide) (p_move rfl) ?_
    refine m_takep 1 rfl (by kernel_rfl) (by decide) (p_move rfl) ?_
    refine m_takep 2 rfl (by kernel_rfl) (by decide) (p_nilp rfl) ?_
    first | refine m_takep 3 rfl (by kernel_rfl) (by decide) (p_faddr (i := 0) 0 Try.underlying41 rfl inf_22 (by decide) rfl rfl) ?_ | refine m_takep 3 rfl (by kernel_rfl) (by decide) (p_faddro (i := 0) 0 Try.underlying41 rfl inf_22 (by decide) rfl rfl) ?_
    first | refine m_take 4 rfl (by kernel_rfl) (by decide) (by first | exact (List.Perm.refl _ : List.Perm _ ([] ++ _)) | exact (List.Perm.refl _ : List.Perm _ ([_] ++ _)) | exact (List.Perm.refl _ : List.Perm _ ([_, _] ++ _)) | exact (List.Perm.refl _ : List.Perm _ ([_, _, _] ++ _)) | exact (List.Perm.refl _ : List.Perm _ ([_, _, _, _] ++ _)) | exact (List.Perm.refl _ : List.Perm _ ([_, _, _, _, _] ++ _))) (by first | exact fun _ h => h | exact fun _ h => List.mem_cons_of_mem _ h | exact fun _ h => List.mem_cons_of_mem _ (List.mem_cons_of_mem _ h)) (r_loado Try.underlying22 rfl rfl (by repeat (first | exact List.Mem.head _ | apply List.Mem.tail)) (by rfl)).r ?_ | refine m_take 4 rfl (by kernel_rfl) (by decide) (by first | exact (List.Perm.refl _ : List.Perm _ ([] ++ _)) | exact (List.Perm.refl _ : List.Perm _ ([_] ++ _)) | exact (List.Perm.refl _ : List.Perm _ ([_, _] ++ _)) | exact (List.Perm.refl _ : List.Perm _ ([_, _, _] ++ _)) | exact (List.Perm.refl _ : List.Perm _ ([_, _, _, _] ++ _)) | exact (List.Perm.refl _ : List.Perm _ ([_, _, _, _, _] ++ _))) (by first | exact fun _ h => h | exact fun _ h => List.mem_cons_of_mem _ h | exact fun _ h => List.mem_cons_of_mem _ (List.mem_cons_of_mem _ h)) (r_load1 Try.underlying22 rfl rfl (by first | exact .fact (by repeat (first | exact List.Mem.head _ | apply List.Mem.tail)) | exact .own (by repeat (first | exact List.Mem.head _ | apply List.Mem.tail)) (by decide) (fun _ => rfl)) (by first | assumption | rfl) (by rfl)).r ?_ | refine m_take 4 rfl (by kernel_rfl) (by decide) (by first | exact (List.Perm.refl _ : List.Perm _ ([] ++ _)) | exact (List.Perm.refl _ : List.Perm _ ([_] ++ _)) | exact (List.Perm.refl _ : List.Perm _ ([_, _] ++ _)) | exact (List.Perm.refl _ : List.Perm _ ([_, _, _] ++ _)) | exact (List.Perm.refl _ : List.Perm _ ([_, _, _, _] ++ _)) | exact (List.Perm.refl _ : List.Perm _ ([_, _, _, _, _] ++ _))) (by first | exact fun _ h => h | exact fun _ h => List.mem_cons_of_mem _ h | exact fun _ h => List.mem_cons_of_mem _ (List.mem_cons_of_mem _ h)) (r_loadf Try.underlying22 rfl rfl (by first | exact .fact (by repeat (first | exact List.Mem.head _ | apply List.Mem.tail)) | exact .own (by repeat (first | exact List.Mem.head _ | apply List.Mem.tail)) (by decide) (fun _ => rfl)) (by assumption) (by rfl)).r ?_
    first | refine m_take 5 rfl (by kernel_rfl) (by decide) (by first | exact (List.Perm.refl _ : List.Perm _ ([] ++ _)) | exact (List.Perm.refl _ : List.Perm _ ([_] ++ _)) | exact (List.Perm.refl _ : List.Perm _ ([_, _] ++ _)) | exact (List.Perm.refl _ : List.Perm _ ([_, _, _] ++ _)) | exact (List.Perm.refl _ : List.Perm _ ([_, _, _, _] ++ _)) | exact (List.Perm.refl _ : List.Perm _ ([_, _, _, _, _] ++ _))) (by first | exact fun _ h => h | exact fun _ h => List.mem_cons_of_mem _ h | exact fun _ h => List.mem_cons_of_mem _ (List.mem_cons_of_mem _ h)) (r_loada Try.underlying33 rfl inf_33 rfl (by first | exact .fact (by repeat (first | exact List.Mem.head _ | apply List.Mem.tail)) | exact .own (by repeat (first | exact List.Mem.head _ | apply List.Mem.tail)) (by decide) (fun _ => rfl)) (by assumption)).r ?_ | refine m_take 5 rfl (by kernel_rfl) (by decide) (by first | exact (List.Perm.refl _ : List.Perm _ ([] ++ _)) | exact (List.Perm.refl _ : List.Perm _ ([_] ++ _)) | exact (List.Perm.refl _ : List.Perm _ ([_, _] ++ _)) | exact (List.Perm.refl _ : List.Perm _ ([_, _, _] ++ _)) | exact (List.Perm.refl _ : List.Perm _ ([_, _, _, _] ++ _)) | exact (List.Perm.refl _ : List.Perm _ ([_, _, _, _, _] ++ _))) (by first | exact fun _ h => h | exact fun _ h => List.mem_cons_of_mem _ h | exact fun _ h => List.mem_cons_of_mem _ (List.mem_cons_of_mem _ h)) (r_loadow Try.underlying33 rfl inf_33 rfl (by repeat (first | exact List.Mem.head _ | apply List.Mem.tail)) (by rfl)).r ?_ | refine m_take 5 rfl (by kernel_rfl) (by decide) (by first | exact (List.Perm.refl _ : List.Perm _ ([] ++ _)) | exact (List.Perm.refl _ : List.Perm _ ([_] ++ _)) | exact (List.Perm.refl _ : List.Perm _ ([_, _] ++ _)) | exact (List.Perm.refl _ : List.Perm _ ([_, _, _] ++ _)) | exact (List.Perm.refl _ : List.Perm _ ([_, _, _, _] ++ _)) | exact (List.Perm.refl _ : List.Perm _ ([_, _, _, _, _] ++ _))) (by first | exact fun _ h => h | exact fun _ h => List.mem_cons_of_mem _ h | exact fun _ h => List.mem_cons_of_mem _ (List.mem_cons_of_mem _ h)) (r_loadoa Try.underlying33 rfl inf_33 rfl (by repeat (first | exact List.Mem.head _ | apply List.Mem.tail)) (by rfl) (fun j u h => h)).r ?_
    refine m_run 6 rfl (by kernel_rfl) ?_
    refine l_buildSlice (by decide) Try.underlying22 inf_33 (by decide) (by decide) rfl rfl rfl rfl (fun b48 => ?_)
    refine l_nil ?_
    refine m_next _ (by first | exact (List.Perm.refl _ : List.Perm _ ([] ++ _)) | exact (List.Perm.refl _ : List.Perm _ ([_] ++ _)) | exact (List.Perm.refl _ : List.Perm _ ([_, _] ++ _)) | exact (List.Perm.refl _ : List.Perm _ ([_, _, _] ++ _)) | exact (List.Perm.refl _ : List.Perm _ ([_, _, _, _] ++ _)) | exact (List.Perm.refl _ : List.Perm _ ([_, _, _, _, _] ++ _))) (by first | exact fun _ h => h | exact fun _ h => List.mem_cons_of_mem _ h | exact fun _ h => List.mem_cons_of_mem _ (List.mem_cons_of_mem _ h)) ?_
    refine m_run 7 rfl (by kernel_rfl) ?_
    first | (refine l_append1 (u) (by decide) Try.underlying22 inf_33 rfl (by decide) rfl rfl rfl rfl rfl rfl (by omega) (by omega) (fun A49 c49 hA49 => ?_)) | (refine l_perm (.cons _ (front1 _ _ _)) ?_; refine l_append1 (u) (by decide) Try.underlying22 inf_33 rfl (by decide) rfl rfl rfl rfl rfl rfl (by omega) (by omega) (fun A49 c49 hA49 => ?_)) | (refine l_perm (.cons _ (front2 _ _ _ _)) ?_; refine l_append1 (u) (by decide) Try.underlying22 inf_33 rfl (by decide) rfl rfl rfl rfl rfl rfl (by omega) (by omega) (fun A49 c49 hA49 => ?_))
    refine l_nil ?_
    refine m_late rfl ?_
    refine m_takep 8 rfl (by kernel_rfl) (by decide) (p_nilp rfl) ?_
    first | refine m_takep 9 rfl (by kernel_rfl) (by decide) (p_faddr (i := 0) 0 Try.underlying41 rfl inf_22 (by decide) rfl rfl) ?_ | refine m_takep 9 rfl (by kernel_rfl) (by decide) (p_faddro (i := 0) 0 Try.underlying41 rfl inf_22 (by decide) rfl rfl) ?_
    refine m_run 10 rfl (by kernel_rfl) ?_
    first | (refine l_store inf_22 rfl rfl rfl rfl (by first | decide | exact Nat.le_of_ble_eq_true rfl | (simp; done) | omega | (simp only [Nat.mul_one]; assumption)) ?_) | (refine l_perm (front1 _ _ _) ?_; refine l_store inf_22 rfl rfl rfl rfl (by first | decide | exact Nat.le_of_ble_eq_true rfl | (simp; done) | omega | (simp only [Nat.mul_one]; assumption)) ?_) | (refine l_perm (front2 _ _ _ _) ?_; refine l_store inf_22 rfl rfl rfl rfl (by first | decide | exact Nat.le_of_ble_eq_true rfl | (simp; done) | omega | (simp only [Nat.mul_one]; assumption)) ?_) | (refine l_perm (front3 _ _ _ _ _) ?_; refine l_store inf_22 rfl rfl rfl rfl (by first | decide | exact Nat.le_of_ble_eq_true rfl | (simp; done) | omega | (simp only [Nat.mul_one]; assumption)) ?_) | (refine l_perm (front4 _ _ _ _ _ _) ?_; refine l_store inf_22 rfl rfl rfl rfl (by first | decide | exact Nat.le_of_ble_eq_true rfl | (simp; done) | omega | (simp only [Nat.mul_one]; assumption)) ?_)
    refine l_nil ?_
    refine m_late rfl ?_
    refine m_done (by kernel_rfl) ?_
    refine c_reg ?_
    first | refine l_q (by decide) (p_add (j := 1) rfl rfl rfl rfl (by show _ ≤ (9223372036854775807 : Nat); omega)).q ?_ | refine l_q (by decide) (p_addi rfl rfl (by show (-9223372036854775808 : Int) ≤ _; omega) (by show _ ≤ ((9223372036854775807 : Nat) : Int); omega)).q ?_
    refine l_q (by decide) (p_move rfl).q ?_
    refine l_nil ?_
    first | (refine c_drop (x := iCells b10 _ _) ?_) | (refine c_perm (front1 _ _ _) ?_; refine c_drop (x := iCells b10 _ _) ?_) | (refine c_perm (front2 _ _ _ _) ?_; refine c_drop (x := iCells b10 _ _) ?_) | (refine c_perm (front3 _ _ _ _ _) ?_; refine c_drop (x := iCells b10 _ _) ?_) | (refine c_perm (front4 _ _ _ _ _ _) ?_; refine c_drop (x := iCells b10 _ _) ?_)
    refine c_join ((i + 1), (A49), (c49), (B3), (d3)) ?_ ?_ ?_ ?_
    · show ((i + 1) ≤ l.length) ∧ l.length - (i + 1) < l.length - i
      exact ⟨by omega, by omega⟩
    · exact ⟨rfl, rfl, rfl, (by rw [hrs]; rfl), rfl, rfl, rfl, trivial⟩
    · show List.Perm _ ([iCells b14 41 [.slice (A49) ((Lay.run s defs (l.take (i + 1))).out).length (c49), .int .i64 defs, .slice (B3) ((Lay.run s defs (l.take (i + 1))).lv).reverse.length (d3)], iSl 33 4 tokF (A49) (c49) ((Lay.run s defs (l.take (i + 1))).out), iSl 3 1 natF (B3) (d3) ((Lay.run s defs (l.take (i + 1))).lv).reverse])
      rw [hrs]
      repeat (first | exact List.Perm.refl _ | refine List.Perm.cons _ ?_ | refine (front1 _ _ _).trans (List.Perm.cons _ ?_) | refine (front2 _ _ _ _).trans (List.Perm.cons _ ?_) | refine (front3 _ _ _ _ _).trans (List.Perm.cons _ ?_) | refine (front4 _ _ _ _ _ _).trans (List.Perm.cons _ ?_))
    · exact fun _ h => h
  · skip
    have hfull : l.take i = l := List.take_of_length_le (by omega)
    rw [hfull]
    have hol := Lay.run_len s defs l
    generalize ho3 : (Lay.run s defs l).out = o3 at hol ⊢
    generalize hlv3 : (Lay.run s defs l).lv = lv3 at hol ⊢
    have hrv : lv3.reverse.length = lv3.length := List.length_reverse
    refine c_exit ?_
    refine c_here ?_
    refine c_seq ?_
    refine c_seq ?_
    refine c_reg ?_
    refine l_q (by decide) (p_move rfl).q ?_
    refine l_q (by decide) (p_len_sl Try.underlying22 rfl).q ?_
    first | refine l_q (by decide) (p_gtr (j := 0) rfl rfl rfl rfl).q ?_ | refine l_q (by decide) (p_gtri rfl rfl).q ?_
    refine l_nil ?_
    first | refine c_dec rfl (fun h55 => ?_) (fun h55 => ?_) | refine c_cond rfl (fun h55 => ?_) (fun h55 => ?_)
    · skip
      refine c_seq ?_
      refine c_reg ?_
      refine l_q (by decide) (p_move rfl).q ?_
      refine l_q (by decide) (p_move rfl).q ?_
      refine l_q (by decide) (p_len_str Try.underlying9 rfl).q ?_
      refine l_callo (τ := [iCells b14 41 [.slice A2 (o3).length c2, .int .i64 defs, .slice B2 (lv3).reverse.length d2], iSl 33 4 tokF A2 c2 (o3)]) (σ := [iSl 3 1 natF B2 d2 (lv3).reverse]) (fun _ => .tuple #[]) (fun x : Option Addr × Nat => [iCells b14 41 [.slice x.1 (o3 ++ [Lay.tok (defs + (0 : Nat)) (s.length)]).length x.2, .int .i64 defs, .slice B2 (lv3).reverse.length d2], iSl 33 4 tokF x.1 x.2 (o3 ++ [Lay.tok (defs + (0 : Nat)) (s.length)])]) (by decide) call_24 rfl (fun w hs => layout_ok b14 c2 0 (s.length) defs A2 _ (o3) (by decide) (by omega) hd1 hd2 (by omega) _ _ w hs) (fun x59 => ?_)
      refine l_nil ?_
      refine c_seq ?_
      refine c_reg ?_
      refine l_q (by decide) (p_move rfl).q ?_
      refine l_q (by decide) (p_nilp rfl).q ?_
      first | refine l_q (by decide) (p_faddr (i := 2) 2 Try.underlying41 rfl inf_39 (by decide) rfl rfl).q ?_ | refine l_q (by decide) (p_faddro (i := 2) 2 Try.underlying41 rfl inf_39 (by decide) rfl rfl).q ?_
      first | refine l_q (by decide) (r_loado Try.underlying39 rfl rfl (by repeat (first | exact List.Mem.head _ | apply List.Mem.tail)) (by rfl)).q ?_ | refine l_q (by decide) (r_load1 Try.underlying39 rfl rfl (by first | exact .fact (by repeat (first | exact List.Mem.head _ | apply List.Mem.tail)) | exact .own (by repeat (first | exact List.Mem.head _ | apply List.Mem.tail)) (by decide) (fun _ => rfl)) (by first | assumption | rfl) (by rfl)).q ?_ | refine l_q (by decide) (r_loadf Try.underlying39 rfl rfl (by first | exact .fact (by repeat (first | exact List.Mem.head _ | apply List.Mem.tail)) | exact .own (by repeat (first | exact List.Mem.head _ | apply List.Mem.tail)) (by decide) (fun _ => rfl)) (by assumption) (by rfl)).q ?_
      refine l_q (by decide) (p_len_sl Try.underlying39 rfl).q ?_
      refine l_q (by decide) (p_move (v := .int .i64 ((0 : Nat) : Int)) rfl).q ?_
      refine l_nil ?_
      refine c_block ?_
      refine c_loop (S := Nat × Option Addr × Nat) (fun zs => zs.1 ≤ lv3.length) (fun zs => lv3.length - zs.1) (fun zs => [(1, str s), (7, .pointer (some ⟨b14, 0, none⟩)), (64, .int .i64 (lv3.reverse.length : Int)), (65, .int .i64 (zs.1 : Int))]) (fun zs => [iCells b14 41 [.slice zs.2.1 (o3 ++ [Lay.tok (defs + (0 : Nat)) s.length] ++ List.replicate zs.1 (Lay.tok (defs + (2 : Nat)) s.length)).length zs.2.2, .int .i64 defs, .slice B2 (lv3).reverse.length d2], iSl 33 4 tokF zs.2.1 zs.2.2 (o3 ++ [Lay.tok (defs + (0 : Nat)) s.length] ++ List.replicate zs.1 (Lay.tok (defs + (2 : Nat)) s.length)), iSl 3 1 natF B2 d2 (lv3).reverse]) (fun zs => [Sl 4 tokF A l]) (0, x59.1, x59.2) ?_ ?_ ?_ ?_ ?_
      · show (0) ≤ lv3.length
        exact Nat.zero_le _
      · exact ⟨rfl, rfl, rfl, rfl, trivial⟩
      · exact by rw [List.replicate_zero, List.append_nil]; exact .refl _
      · simp
      rintro ⟨q, A4, c4⟩ hinv
      have hinv : q ≤ lv3.length := hinv
      have hq4 := hinv
      show Cont _ _ _ _ [(1, str s), (7, .pointer (some ⟨b14, 0, none⟩)), (64, .int .i64 (lv3.reverse.length : Int)), (65, .int .i64 (q : Int))] ([iCells b14 41 [.slice A4 (o3 ++ [Lay.tok (defs + (0 : Nat)) s.length] ++ List.replicate q (Lay.tok (defs + (2 : Nat)) s.length)).length c4, .int .i64 defs, .slice B2 (lv3).reverse.length d2], iSl 33 4 tokF A4 c4 (o3 ++ [Lay.tok (defs + (0 : Nat)) s.length] ++ List.replicate q (Lay.tok (defs + (2 : Nat)) s.length)), iSl 3 1 natF B2 d2 (lv3).reverse]) [Sl 4 tokF A l]
      refine c_seq ?_
      refine c_reg ?_
      first | refine l_q (by decide) (p_lss rfl rfl rfl rfl).q ?_ | refine l_q (by decide) (p_lssi rfl rfl).q ?_
      refine l_nil ?_
      refine c_seq ?_
      first | refine c_dec rfl (fun h66 => ?_) (fun h66 => ?_) | refine c_cond rfl (fun h66 => ?_) (fun h66 => ?_)
      · skip
        refine c_skip ?_
        refine c_seq ?_
        refine c_block ?_
        refine c_reg ?_
        refine l_q (by decide) (p_move rfl).q ?_
        refine l_q (by decide) (p_move rfl).q ?_
        refine l_q (by decide) (p_len_str Try.underlying9 rfl).q ?_
        refine l_callo (τ := [iCells b14 41 [.slice A4 (o3 ++ [Lay.tok (defs + (0 : Nat)) s.length] ++ List.replicate q (Lay.tok (defs + (2 : Nat)) s.length)).length c4, .int .i64 defs, .slice B2 (lv3).reverse.length d2], iSl 33 4 tokF A4 c4 (o3 ++ [Lay.tok (defs + (0 : Nat)) s.length] ++ List.replicate q (Lay.tok (defs + (2 : Nat)) s.length))]) (σ := [iSl 3 1 natF B2 d2 (lv3).reverse]) (fun _ => .tuple #[]) (fun x : Option Addr × Nat => [iCells b14 41 [.slice x.1 (o3 ++ [Lay.tok (defs + (0 : Nat)) s.length] ++ List.replicate q (Lay.tok (defs + (2 : Nat)) s.length) ++ [Lay.tok (defs + (2 : Nat)) (s.length)]).length x.2, .int .i64 defs, .slice B2 (lv3).reverse.length d2], iSl 33 4 tokF x.1 x.2 (o3 ++ [Lay.tok (defs + (0 : Nat)) s.length] ++ List.replicate q (Lay.tok (defs + (2 : Nat)) s.length) ++ [Lay.tok (defs + (2 : Nat)) (s.length)])]) (by decide) call_24 rfl (fun w hs => layout_ok b14 c4 2 (s.length) defs A4 _ (o3 ++ [Lay.tok (defs + (0 : Nat)) s.length] ++ List.replicate q (Lay.tok (defs + (2 : Nat)) s.length)) (by decide) (by omega) hd1 hd2 (by simp only [List.length_append, List.length_replicate, List.length_cons, List.length_nil]; omega) _ _ w hs) (fun x70 => ?_)
        refine l_nil ?_
        refine c_reg ?_
        first | refine l_q (by decide) (p_add (j := 1) rfl rfl rfl rfl (by show _ ≤ (9223372036854775807 : Nat); omega)).q ?_ | refine l_q (by decide) (p_addi rfl rfl (by show (-9223372036854775808 : Int) ≤ _; omega) (by show _ ≤ ((9223372036854775807 : Nat) : Int); omega)).q ?_
        refine l_q (by decide) (p_move rfl).q ?_
        refine l_nil ?_
        refine c_join ((q + 1), (x70.1), (x70.2)) ?_ ?_ ?_ ?_
        · show ((q + 1) ≤ lv3.length) ∧ lv3.length - (q + 1) < lv3.length - q
          exact ⟨by omega, by omega⟩
        · exact ⟨rfl, rfl, rfl, rfl, trivial⟩
        · show List.Perm _ ([iCells b14 41 [.slice (x70.1) (o3 ++ [Lay.tok (defs + (0 : Nat)) s.length] ++ List.replicate (q + 1) (Lay.tok (defs + (2 : Nat)) s.length)).length (x70.2), .int .i64 defs, .slice B2 (lv3).reverse.length d2], iSl 33 4 tokF (x70.1) (x70.2) (o3 ++ [Lay.tok (defs + (0 : Nat)) s.length] ++ List.replicate (q + 1) (Lay.tok (defs + (2 : Nat)) s.length)), iSl 3 1 natF B2 d2 (lv3).reverse])
          rw [rep_one]; exact .refl _
        · exact fun _ h => h
      · skip
        refine c_exit ?_
        refine c_here ?_
        refine c_seq ?_
        refine c_reg ?_
        refine l_q (by decide) (p_move rfl).q ?_
        refine l_q (by decide) (p_nilp rfl).q ?_
        first | refine l_q (by decide) (p_faddr (i := 0) 0 Try.underlying41 rfl inf_22 (by decide) rfl rfl).q ?_ | refine l_q (by decide) (p_faddro (i := 0) 0 Try.underlying41 rfl inf_22 (by decide) rfl rfl).q ?_
        first | refine l_q (by decide) (r_loado Try.underlying22 rfl rfl (by repeat (first | exact List.Mem.head _ | apply List.Mem.tail)) (by rfl)).q ?_ | refine l_q (by decide) (r_load1 Try.underlying22 rfl rfl (by first | exact .fact (by repeat (first | exact List.Mem.head _ | apply List.Mem.tail)) | exact .own (by repeat (first | exact List.Mem.head _ | apply List.Mem.tail)) (by decide) (fun _ => rfl)) (by first | assumption | rfl) (by rfl)).q ?_ | refine l_q (by decide) (r_loadf Try.underlying22 rfl rfl (by first | exact .fact (by repeat (first | exact List.Mem.head _ | apply List.Mem.tail)) | exact .own (by repeat (first | exact List.Mem.head _ | apply List.Mem.tail)) (by decide) (fun _ => rfl)) (by assumption) (by rfl)).q ?_
        refine l_q (by decide) (p_assign rfl).q ?_
        refine l_nil ?_
        refine c_ret ?_
        refine c_ret1 rfl rfl (fun w hs => ?_)
        have g := hs.give (e := 33) (size := 4) (f := tokF) (es := o3 ++ [Lay.tok (defs + (0 : Nat)) s.length] ++ List.replicate q (Lay.tok (defs + (2 : Nat)) s.length)) (by repeat (first | exact List.Mem.head _ | apply List.Mem.tail)) (by decide) len_tokF
        have he : o3 ++ [Lay.tok (defs + (0 : Nat)) s.length] ++ List.replicate q (Lay.tok (defs + (2 : Nat)) s.length) = Lay.app l s defs := by rw [app_end h55, ho3, hlv3, tok0, show q = lv3.length by omega]; rfl
        have hcp := hs.cap (e := 33) (size := 4) (f := tokF) (es := o3 ++ [Lay.tok (defs + (0 : Nat)) s.length] ++ List.replicate q (Lay.tok (defs + (2 : Nat)) s.length)) (by repeat (first | exact List.Mem.head _ | apply List.Mem.tail))
        rw [he] at g hcp
        exact ⟨⟨(_, _), hcp⟩, congrArg (fun z : List Lay.T => Value.slice _ z.length _) he, g.1, g.2.1, hs.ext⟩
    · skip
      refine c_skip ?_
      refine c_seq ?_
      refine c_reg ?_
      refine l_q (by decide) (p_move rfl).q ?_
      refine l_q (by decide) (p_nilp rfl).q ?_
      first | refine l_q (by decide) (p_faddr (i := 0) 0 Try.underlying41 rfl inf_22 (by decide) rfl rfl).q ?_ | refine l_q (by decide) (p_faddro (i := 0) 0 Try.underlying41 rfl inf_22 (by decide) rfl rfl).q ?_
      first | refine l_q (by decide) (r_loado Try.underlying22 rfl rfl (by repeat (first | exact List.Mem.head _ | apply List.Mem.tail)) (by rfl)).q ?_ | refine l_q (by decide) (r_load1 Try.underlying22 rfl rfl (by first | exact .fact (by repeat (first | exact List.Mem.head _ | apply List.Mem.tail)) | exact .own (by repeat (first | exact List.Mem.head _ | apply List.Mem.tail)) (by decide) (fun _ => rfl)) (by first | assumption | rfl) (by rfl)).q ?_ | refine l_q (by decide) (r_loadf Try.underlying22 rfl rfl (by first | exact .fact (by repeat (first | exact List.Mem.head _ | apply List.Mem.tail)) | exact .own (by repeat (first | exact List.Mem.head _ | apply List.Mem.tail)) (by decide) (fun _ => rfl)) (by assumption) (by rfl)).q ?_
      refine l_q (by decide) (p_assign rfl).q ?_
      refine l_nil ?_
      refine c_ret ?_
      refine c_ret1 rfl rfl (fun w hs => ?_)
      obtain ⟨he, rfl⟩ := app_nil (s := s) (defs := defs) h55
      have g := hs.give (e := 33) (size := 4) (f := tokF) (es := o3) (by repeat (first | exact List.Mem.head _ | apply List.Mem.tail)) (by decide) len_tokF
      subst ho3
      rw [he]
      exact ⟨⟨(_, _), Nat.zero_le _⟩, rfl, g.1, g.2.1, hs.ext⟩
end Go.Proofs.Ytejhgbnpmelgcaa
