/- The walks of the off-side rule, third part; conditions: lengths. -/
import Derived.Test.YtejhgbnpmelgcaaWalksB
namespace Go.Proofs.Ytejhgbnpmelgcaa
open Go Go.Fx Go.Proofs

theorem tok0 (defs : Int) (p : Nat) : Lay.tok (defs + ((0 : Nat) : Int)) p = Lay.tok defs p := by simp
/-- where the writer's levels stand -/
theorem lev_cell {w0 w : World} {K : List Nat} {σ : Fx.Own} {ρ : Facts} {b : Nat} {x y z : Value} (hs : St w0 K w σ ρ) (h : iCells b 41 [x, y, z] ∈ σ) : w.cell? ⟨b, 0 + 2, none⟩ = some z := cells_cell (hs.own _ h).1 2
theorem lev_row {w0 w : World} {K : List Nat} {σ : Fx.Own} {ρ : Facts} {B : Option Addr} {d : Nat} {l : List Nat} (hs : St w0 K w σ ρ) (h : iSl 3 1 natF B d l ∈ σ) : Sl 1 natF B l w := row_sl len_natF (hs.own _ h).1 (by decide)
theorem line_in {defs : Int} {p d : Nat} {f : Bool} {lv : List Nat} (h : Lay.top lv < d) : Lay.lineT defs p d f lv = [Lay.tok (defs + 1) p] ∧ Lay.lineL d lv = d :: lv := by unfold Lay.lineT Lay.lineL; rw [if_pos h, if_pos h]; exact ⟨rfl, rfl⟩
theorem line_out {defs : Int} {p d : Nat} {f : Bool} {lv : List Nat} (h : ¬ Lay.top lv < d) : Lay.lineT defs p d f lv = (if f then [] else [Lay.tok defs p]) ++ List.replicate (Lay.pops d lv) (Lay.tok (defs + 2) p) ∧ Lay.lineL d lv = lv.drop (Lay.pops d lv) := by unfold Lay.lineT Lay.lineL; rw [if_neg h, if_neg h]; exact ⟨rfl, rfl⟩
theorem rep_more {α : Type} (o : List α) (q : Nat) (t : α) : o ++ List.replicate (q + 1) t = o ++ List.replicate q t ++ [t] := by rw [List.replicate_succ', List.append_assoc]
theorem second_at (b k d q : Nat) (B : Option Addr) (lv : List Nat) (hl : lv.length ≤ 1000) (w : World) (hc : w.cell? ⟨b, k, none⟩ = some (.slice B (lv.drop q).reverse.length d)) (hq : Sl 1 natF B (lv.drop q).reverse w) : Calls Try.prog 27 #[.pointer (some ⟨b, k, none⟩)] w (Ret fun v w' => v = .int .i64 ((Lay.top (lv.drop (q + 1)) : Nat) : Int) ∧ Ext [] w w') := by
  have := second_ok b k d B (lv.drop q) (by rw [List.length_drop]; omega) w hc hq
  rw [List.drop_drop] at this; exact this
theorem drop_more (lv : List Nat) (q : Nat) : ((lv.drop q).reverse).take ((lv.drop q).reverse.length - 1) = (lv.drop (q + 1)).reverse := by rw [Lay.cut_rev, List.drop_drop]
theorem inf_39 : InfoIs Try.prog 39 1 24 (.slice none 0 0) := by unfold InfoIs; kernel_rfl
theorem call_24 : Callable Try.prog 24 := ⟨_, Try.func24, by kernel_rfl, rfl⟩
theorem call_26 : Callable Try.prog 26 := ⟨_, Try.func26, by kernel_rfl, rfl⟩
theorem call_27 : Callable Try.prog 27 := ⟨_, Try.func27, by kernel_rfl, rfl⟩
theorem line_ok (b c d p dd : Nat) (fb : Bool) (defs : Int) (A B : Option Addr) (o : List Lay.T) (lv : List Nat) (hdd : dd ≤ 1000) (hp : p ≤ 1000) (hd1 : 0 ≤ defs) (hd2 : defs ≤ 1000) (ho : o.length ≤ 10000) (hlv : lv.length ≤ 1000) (K : List Nat) (ρ : Facts) (w : World) (h : St w K w [iCells b 41 [.slice A (o).length c, .int .i64 defs, .slice B (lv).reverse.length d], iSl 33 4 tokF A c (o), iSl 3 1 natF B d (lv).reverse] ρ) :
    Calls Try.prog 23 #[.pointer (some ⟨b, 0, none⟩), .int .i64 (p : Int), .int .i64 (dd : Int), .bool fb] w (Ret fun v w' => ∃ (x : (Option Addr × Nat) × (Option Addr × Nat)) (ρ' : Facts), v = .tuple #[] ∧ St w K w' [iCells b 41 [.slice x.1.1 (o ++ Lay.lineT defs p dd fb lv).length x.1.2, .int .i64 defs, .slice x.2.1 (Lay.lineL dd lv).reverse.length x.2.2], iSl 33 4 tokF x.1.1 x.1.2 (o ++ Lay.lineT defs p dd fb lv), iSl 3 1 natF x.2.1 x.2.2 (Lay.lineL dd lv).reverse] ρ') := by
  refine calls_fx (l := [.pointer (some ⟨b, 0, none⟩), .int .i64 (p : Int), .int .i64 (dd : Int), .bool fb]) Try.func23 rfl Try.ntmps23 (Nat.le_of_ble_eq_true rfl) h ?_
  refine c_seq ?_
  refine c_reg ?_
  refine l_q (by decide) (p_move rfl).q ?_
  refine l_q (by decide) (p_nilp rfl).q ?_
  first | refine l_q (by decide) (p_faddr (i := 2) 2 Try.underlying41 rfl inf_39 (by decide) rfl rfl).q ?_ | refine l_q (by decide) (p_faddro (i := 2) 2 Try.underlying41 rfl inf_39 (by decide) rfl rfl).q ?_
  refine l_q (by decide) (p_makeFn rfl rfl).q ?_
  refine l_q (by decide) (p_assign rfl).q ?_
  refine l_nil ?_
  refine c_seq ?_
  refine c_seq ?_
  refine c_reg ?_
  refine l_q (by decide) (p_move rfl).q ?_
  refine l_q (by decide) (p_move rfl).q ?_
  refine l_q (by decide) (q_callv call_26 rfl rfl (fun w hs => top_ok b (0 + 2) d B (lv) (by omega) w (lev_cell hs (by repeat (first | exact List.Mem.head _ | apply List.Mem.tail))) (lev_row hs (by repeat (first | exact List.Mem.head _ | apply List.Mem.tail))))) ?_
  first | refine l_q (by decide) (p_gtr rfl rfl rfl rfl).q ?_ | refine l_q (by decide) (p_gtri rfl rfl).q ?_
  refine l_nil ?_
  first | refine c_dec rfl (fun h16 => ?_) (fun h16 => ?_) | refine c_cond rfl (fun h16 => ?_) (fun h16 => ?_)
  · skip
    refine c_seq ?_
    refine c_reg ?_
    refine l_q (by decide) (p_move rfl).q ?_
    refine l_q (by decide) (p_move rfl).q ?_
    refine l_q (by decide) (p_nilp rfl).q ?_
    first | refine l_q (by decide) (p_faddr (i := 2) 2 Try.underlying41 rfl inf_39 (by decide) rfl rfl).q ?_ | refine l_q (by decide) (p_faddro (i := 2) 2 Try.underlying41 rfl inf_39 (by decide) rfl rfl).q ?_
    first | refine l_q (by decide) (r_loado Try.underlying39 rfl rfl (by repeat (first | exact List.Mem.head _ | apply List.Mem.tail)) (by rfl)).q ?_ | refine l_q (by decide) (r_load1 Try.underlying39 rfl rfl (by first | exact .fact (by repeat (first | exact List.Mem.head _ | apply List.Mem.tail)) | exact .own (by repeat (first | exact List.Mem.head _ | apply List.Mem.tail)) (by decide) (fun _ => rfl)) (by first | assumption | rfl) (by rfl)).q ?_ | refine l_q (by decide) (r_loadf Try.underlying39 rfl rfl (by first | exact .fact (by repeat (first | exact List.Mem.head _ | apply List.Mem.tail)) | exact .own (by repeat (first | exact List.Mem.head _ | apply List.Mem.tail)) (by decide) (fun _ => rfl)) (by assumption) (by rfl)).q ?_
    refine l_q (by decide) (p_move rfl).q ?_
    refine l_buildSlice (by decide) Try.underlying39 inf_3 (by decide) (by decide) rfl rfl rfl rfl (fun b23 => ?_)
    first | (refine l_append1 (dd) (by decide) Try.underlying39 inf_3 rfl (by decide) rfl rfl rfl rfl rfl rfl (by rw [List.length_reverse]; omega) (by rw [List.length_reverse]; omega) (fun A24 c24 hA24 => ?_)) | (refine l_perm (.cons _ (front1 _ _ _)) ?_; refine l_append1 (dd) (by decide) Try.underlying39 inf_3 rfl (by decide) rfl rfl rfl rfl rfl rfl (by rw [List.length_reverse]; omega) (by rw [List.length_reverse]; omega) (fun A24 c24 hA24 => ?_)) | (refine l_perm (.cons _ (front2 _ _ _ _)) ?_; refine l_append1 (dd) (by decide) Try.underlying39 inf_3 rfl (by decide) rfl rfl rfl rfl rfl rfl (by rw [List.length_reverse]; omega) (by rw [List.length_reverse]; omega) (fun A24 c24 hA24 => ?_))
    refine l_q (by decide) (p_nilp rfl).q ?_
    first | refine l_q (by decide) (p_faddr (i := 2) 2 Try.underlying41 rfl inf_39 (by decide) rfl rfl).q ?_ | refine l_q (by decide) (p_faddro (i := 2) 2 Try.underlying41 rfl inf_39 (by decide) rfl rfl).q ?_
    first | (refine l_store inf_39 rfl rfl rfl rfl (by first | decide | exact Nat.le_of_ble_eq_true rfl | (simp; done) | omega | (simp only [Nat.mul_one]; assumption)) ?_) | (refine l_perm (front1 _ _ _) ?_; refine l_store inf_39 rfl rfl rfl rfl (by first | decide | exact Nat.le_of_ble_eq_true rfl | (simp; done) | omega | (simp only [Nat.mul_one]; assumption)) ?_) | (refine l_perm (front2 _ _ _ _) ?_; refine l_store inf_39 rfl rfl rfl rfl (by first | decide | exact Nat.le_of_ble_eq_true rfl | (simp; done) | omega | (simp only [Nat.mul_one]; assumption)) ?_) | (refine l_perm (front3 _ _ _ _ _) ?_; refine l_store inf_39 rfl rfl rfl rfl (by first | decide | exact Nat.le_of_ble_eq_true rfl | (simp; done) | omega | (simp only [Nat.mul_one]; assumption)) ?_) | (refine l_perm (front4 _ _ _ _ _ _) ?_; refine l_store inf_39 rfl rfl rfl rfl (by first | decide | exact Nat.le_of_ble_eq_true rfl | (simp; done) | omega | (simp only [Nat.mul_one]; assumption)) ?_)
    refine l_nil ?_
    refine c_seq ?_
    refine c_reg ?_
    refine l_q (by decide) (p_move rfl).q ?_
    refine l_q (by decide) (p_move rfl).q ?_
    have hrv : lv.reverse ++ [dd] = (dd :: lv).reverse := by simp
    rw [hrv]
    refine l_perm (.cons _ (front1 _ _ _)) ?_
    refine l_callo (τ := [iCells b 41 [.slice A (o).length c, .int .i64 defs, .slice A24 (dd :: lv).reverse.length c24], iSl 33 4 tokF A c (o)]) (σ := [iSl 3 1 natF A24 c24 (dd :: lv).reverse]) (fun _ => .tuple #[]) (fun x : Option Addr × Nat => [iCells b 41 [.slice x.1 (o ++ [Lay.tok (defs + (1 : Nat)) p]).length x.2, .int .i64 defs, .slice A24 (dd :: lv).reverse.length c24], iSl 33 4 tokF x.1 x.2 (o ++ [Lay.tok (defs + (1 : Nat)) p])]) (by decide) call_24 rfl (fun w hs => layout_ok b c 1 p defs A _ (o) (by decide) hp hd1 hd2 (by omega) _ _ w hs) (fun x29 => ?_)
    refine l_nil ?_
    refine c_ret ?_
    refine c_ret0 rfl (fun w hs => ?_)
    have hli := line_in (defs := defs) (p := p) (f := fb) h16
    refine ⟨(x29, (A24, c24)), ρ, rfl, ?_⟩
    rw [hli.1, hli.2]; exact hs
  · skip
    refine c_skip ?_
    refine c_seq ?_
    refine c_seq ?_
    refine c_reg ?_
    refine l_q (by decide) (p_move rfl).q ?_
    first | refine l_q (by decide) (p_notd rfl).q ?_ | refine l_q (by decide) (p_not rfl).q ?_
    refine l_nil ?_
    refine c_meetn (S := Option Addr × Nat × List Lay.T) (fun zs => zs.2.2 = o ++ (if fb then [] else [Lay.tok defs p])) (fun zs => [(0, .pointer (some ⟨b, 0, none⟩)), (1, .int .i64 (p : Int)), (2, .int .i64 (dd : Int))]) (fun zs => [iCells b 41 [.slice zs.1 (zs.2.2).length zs.2.1, .int .i64 defs, .slice B (lv).reverse.length d], iSl 33 4 tokF zs.1 zs.2.1 (zs.2.2), iSl 3 1 natF B d (lv).reverse]) (fun zs => ρ) ?_ ?_
    · skip
      first | refine c_dec rfl (fun h31 => ?_) (fun h31 => ?_) | refine c_cond rfl (fun h31 => ?_) (fun h31 => ?_)
      · skip
        refine c_reg ?_
        refine l_q (by decide) (p_move rfl).q ?_
        refine l_q (by decide) (p_move rfl).q ?_
        refine l_callo (τ := [iCells b 41 [.slice A (o).length c, .int .i64 defs, .slice B (lv).reverse.length d], iSl 33 4 tokF A c (o)]) (σ := [iSl 3 1 natF B d (lv).reverse]) (fun _ => .tuple #[]) (fun x : Option Addr × Nat => [iCells b 41 [.slice x.1 (o ++ [Lay.tok (defs + (0 : Nat)) p]).length x.2, .int .i64 defs, .slice B (lv).reverse.length d], iSl 33 4 tokF x.1 x.2 (o ++ [Lay.tok (defs + (0 : Nat)) p])]) (by decide) call_24 rfl (fun w hs => layout_ok b c 0 p defs A _ (o) (by decide) hp hd1 hd2 (by omega) _ _ w hs) (fun x34 => ?_)
        refine l_nil ?_
        refine c_join (x34.1, x34.2, o ++ [Lay.tok (defs + (0 : Nat)) p]) ?inv ?sub ?perm ?facts
        case sub => exact ⟨rfl, rfl, rfl, trivial⟩
        case perm =>
          exact .refl _
        case facts => exact fun _ h => h
        case inv =>
          have hfb : fb = false := by simpa using h31
          rw [hfb, tok0]; rfl
      · skip
        refine c_skip ?_
        refine c_join (A, c, o) ?inv ?sub ?perm ?facts
        case sub => exact ⟨rfl, rfl, rfl, trivial⟩
        case perm =>
          exact .refl _
        case facts => exact fun _ h => h
        case inv =>
          have hfb : fb = true := by simpa using h31
          rw [hfb]; simp
    rintro ⟨A2, c2, o2⟩ hmeet
    have hmeet : o2 = o ++ (if fb then [] else [Lay.tok defs p]) := hmeet
    have ho2 := hmeet
    show Cont _ _ _ _ [(0, .pointer (some ⟨b, 0, none⟩)), (1, .int .i64 (p : Int)), (2, .int .i64 (dd : Int))] ([iCells b 41 [.slice A2 (o2).length c2, .int .i64 defs, .slice B (lv).reverse.length d], iSl 33 4 tokF A2 c2 (o2), iSl 3 1 natF B d (lv).reverse]) ρ
    have ho2l : o2.length ≤ o.length + 1 := by rw [ho2, List.length_append]; cases fb <;> simp
    refine c_block ?_
    refine c_loop (S := Nat × Option Addr × Nat × Option Addr × Nat) (fun zs => zs.1 ≤ Lay.pops dd lv) (fun zs => Lay.pops dd lv - zs.1) (fun zs => [(0, .pointer (some ⟨b, 0, none⟩)), (1, .int .i64 (p : Int)), (2, .int .i64 (dd : Int))]) (fun zs => [iCells b 41 [.slice zs.2.1 (o2 ++ List.replicate zs.1 (Lay.tok (defs + 2) p)).length zs.2.2.1, .int .i64 defs, .slice zs.2.2.2.1 (lv.drop zs.1).reverse.length zs.2.2.2.2], iSl 33 4 tokF zs.2.1 zs.2.2.1 (o2 ++ List.replicate zs.1 (Lay.tok (defs + 2) p)), iSl 3 1 natF zs.2.2.2.1 zs.2.2.2.2 (lv.drop zs.1).reverse]) (fun zs => ρ) (0, A2, c2, B, d) ?_ ?_ ?_ ?_ ?_
    · show (0) ≤ Lay.pops dd lv
      exact Nat.zero_le _
    · exact ⟨rfl, rfl, rfl, trivial⟩
    · exact by simp only [List.replicate_zero, List.append_nil, List.drop_zero]; exact .refl _
    · exact fun _ h => h
    rintro ⟨q, A2, c2, B2, d2⟩ hinv
    have hinv : q ≤ Lay.pops dd lv := hinv
    have hq := hinv
    have hrl : (lv.drop q).reverse.length = (lv.drop q).length := List.length_reverse
    have hpm := Lay.pops_more dd lv q hq
    have hpl := Lay.pops_le dd lv
    have hdl : (lv.drop q).length ≤ lv.length := by rw [List.length_drop]; omega
    show Cont _ _ _ _ [(0, .pointer (some ⟨b, 0, none⟩)), (1, .int .i64 (p : Int)), (2, .int .i64 (dd : Int))] ([iCells b 41 [.slice A2 (o2 ++ List.replicate q (Lay.tok (defs + 2) p)).length c2, .int .i64 defs, .slice B2 (lv.drop q).reverse.length d2], iSl 33 4 tokF A2 c2 (o2 ++ List.replicate q (Lay.tok (defs + 2) p)), iSl 3 1 natF B2 d2 (lv.drop q).reverse]) ρ
    refine c_seq ?_
    refine c_seq ?_
    refine c_meetn (S := Unit) (fun zs => True) (fun zs => [(0, .pointer (some ⟨b, 0, none⟩)), (1, .int .i64 (p : Int)), (2, .int .i64 (dd : Int)), (48, .bool (decide (0 < (lv.drop q).length ∧ dd ≤ Lay.top (lv.drop (q + 1)))))]) (fun zs => [iCells b 41 [.slice A2 (o2 ++ List.replicate q (Lay.tok (defs + 2) p)).length c2, .int .i64 defs, .slice B2 (lv.drop q).reverse.length d2], iSl 33 4 tokF A2 c2 (o2 ++ List.replicate q (Lay.tok (defs + 2) p)), iSl 3 1 natF B2 d2 (lv.drop q).reverse]) (fun zs => ρ) ?_ ?_
    · skip
      refine c_reg ?_
      refine l_q (by decide) (p_move rfl).q ?_
      refine l_q (by decide) (p_nilp rfl).q ?_
      first | refine l_q (by decide) (p_faddr (i := 2) 2 Try.underlying41 rfl inf_39 (by decide) rfl rfl).q ?_ | refine l_q (by decide) (p_faddro (i := 2) 2 Try.underlying41 rfl inf_39 (by decide) rfl rfl).q ?_
      first | refine l_q (by decide) (r_loado Try.underlying39 rfl rfl (by repeat (first | exact List.Mem.head _ | apply List.Mem.tail)) (by rfl)).q ?_ | refine l_q (by decide) (r_load1 Try.underlying39 rfl rfl (by first | exact .fact (by repeat (first | exact List.Mem.head _ | apply List.Mem.tail)) | exact .own (by repeat (first | exact List.Mem.head _ | apply List.Mem.tail)) (by decide) (fun _ => rfl)) (by first | assumption | rfl) (by rfl)).q ?_ | refine l_q (by decide) (r_loadf Try.underlying39 rfl rfl (by first | exact .fact (by repeat (first | exact List.Mem.head _ | apply List.Mem.tail)) | exact .own (by repeat (first | exact List.Mem.head _ | apply List.Mem.tail)) (by decide) (fun _ => rfl)) (by assumption) (by rfl)).q ?_
      refine l_q (by decide) (p_len_sl Try.underlying39 rfl).q ?_
      first | refine l_q (by decide) (p_gtr (j := 0) rfl rfl rfl rfl).q ?_ | refine l_q (by decide) (p_gtri rfl rfl).q ?_
      refine l_q (by decide) (p_move rfl).q ?_
      first | refine l_splitd (t := 41) rfl (fun h41 => ?_) (fun h41 => ?_) | refine l_splitb (t := 41) rfl (fun h41 => ?_) (fun h41 => ?_)
      · skip
        refine l_g (j := 6) rfl rfl (by decide) (p_move rfl).q ?_
        refine l_g (j := 6) rfl rfl (by decide) (p_nilp rfl).q ?_
        first | refine l_g (j := 6) rfl rfl (by decide) (p_faddr (i := 2) 2 Try.underlying41 rfl inf_39 (by decide) rfl rfl).q ?_ | refine l_g (j := 6) rfl rfl (by decide) (p_faddro (i := 2) 2 Try.underlying41 rfl inf_39 (by decide) rfl rfl).q ?_
        refine l_g (j := 6) rfl rfl (by decide) (q_call call_27 rfl (fun w hs => second_at b (0 + 2) d2 q B2 lv hlv w (lev_cell hs (by repeat (first | exact List.Mem.head _ | apply List.Mem.tail))) (lev_row hs (by repeat (first | exact List.Mem.head _ | apply List.Mem.tail))))) ?_
        refine l_g (j := 6) rfl rfl (by decide) (p_move rfl).q ?_
        first | refine l_g (j := 6) rfl rfl (by decide) (p_geq rfl rfl rfl rfl).q ?_ | refine l_g (j := 6) rfl rfl (by decide) (p_geqi rfl rfl).q ?_
        refine l_q (by decide) (p_pick rfl rfl).q ?_
        refine l_nil ?_
        refine c_join (()) ?inv ?sub ?perm ?facts
        case sub => exact ⟨rfl, rfl, rfl, (by first | rfl | exact congrArg (fun b => some (Value.bool b)) (decide_eq_true (by omega)).symm | exact congrArg (fun b => some (Value.bool b)) (decide_eq_false (by omega)).symm | exact congrArg (fun b => some (Value.bool b)) (decide_eq_decide.2 (by omega))), trivial⟩
        case perm =>
          exact .refl _
        case facts => exact fun _ h => h
        case inv =>
          trivial
      · skip
        refine l_off (j := 6) rfl rfl (by first | (simp; done) | (simp [undef]; done)) (by decide) ?_
        refine l_off (j := 6) rfl rfl (by first | (simp; done) | (simp [undef]; done)) (by decide) ?_
        refine l_off (j := 6) rfl rfl (by first | (simp; done) | (simp [undef]; done)) (by decide) ?_
        refine l_off (j := 6) rfl rfl (by first | (simp; done) | (simp [undef]; done)) (by decide) ?_
        refine l_off (j := 6) rfl rfl (by first | (simp; done) | (simp [undef]; done)) (by decide) ?_
        refine l_off (j := 6) rfl rfl (by first | (simp; done) | (simp [undef]; done)) (by decide) ?_
        refine l_q (by decide) (p_pick rfl rfl).q ?_
        refine l_nil ?_
        refine c_join (()) ?inv ?sub ?perm ?facts
        case sub => exact ⟨rfl, rfl, rfl, (by first | rfl | exact congrArg (fun b => some (Value.bool b)) (decide_eq_true (by omega)).symm | exact congrArg (fun b => some (Value.bool b)) (decide_eq_false (by omega)).symm | exact congrArg (fun b => some (Value.bool b)) (decide_eq_decide.2 (by omega))), trivial⟩
        case perm =>
          exact .refl _
        case facts => exact fun _ h => h
        case inv =>
          trivial
    rintro uu hmeet
    show Cont _ _ _ _ [(0, .pointer (some ⟨b, 0, none⟩)), (1, .int .i64 (p : Int)), (2, .int .i64 (dd : Int)), (48, .bool (decide (0 < (lv.drop q).length ∧ dd ≤ Lay.top (lv.drop (q + 1)))))] ([iCells b 41 [.slice A2 (o2 ++ List.replicate q (Lay.tok (defs + 2) p)).length c2, .int .i64 defs, .slice B2 (lv.drop q).reverse.length d2], iSl 33 4 tokF A2 c2 (o2 ++ List.replicate q (Lay.tok (defs + 2) p)), iSl 3 1 natF B2 d2 (lv.drop q).reverse]) ρ
    first | refine c_dec rfl (fun h48 => ?_) (fun h48 => ?_) | refine c_cond rfl (fun h48 => ?_) (fun h48 => ?_)
    · skip
      refine c_skip ?_
      refine c_block ?_
      refine c_seq ?_
      refine c_rowcap (e := 3) (size := 1) (f := natF) (A := B2) (c := d2) (es := (lv.drop q).reverse) (by repeat (first | exact List.Mem.head _ | apply List.Mem.tail)) (fun hcap => ?_)
      refine m_draw [14] mixed ?_
      refine m_takep 0 rfl (by kernel_rfl) (by decide) (p_move rfl) ?_
      refine m_takep 1 rfl (by kernel_rfl) (by decide) (p_move rfl) ?_
      refine m_takep 2 rfl (by kernel_rfl) (by decide) (p_nilp rfl) ?_
      first | refine m_takep 3 rfl (by kernel_rfl) (by decide) (p_faddr (i := 2) 2 Try.underlying41 rfl inf_39 (by decide) rfl rfl) ?_ | refine m_takep 3 rfl (by kernel_rfl) (by decide) (p_faddro (i := 2) 2 Try.underlying41 rfl inf_39 (by decide) rfl rfl) ?_
      first | refine m_take 4 rfl (by kernel_rfl) (by decide) (by first | exact (List.Perm.refl _ : List.Perm _ ([] ++ _)) | exact (List.Perm.refl _ : List.Perm _ ([_] ++ _)) | exact (List.Perm.refl _ : List.Perm _ ([_, _] ++ _)) | exact (List.Perm.refl _ : List.Perm _ ([_, _, _] ++ _)) | exact (List.Perm.refl _ : List.Perm _ ([_, _, _, _] ++ _)) | exact (List.Perm.refl _ : List.Perm _ ([_, _, _, _, _] ++ _))) (by first | exact fun _ h => h | exact fun _ h => List.mem_cons_of_mem _ h | exact fun _ h => List.mem_cons_of_mem _ (List.mem_cons_of_mem _ h)) (r_loado Try.underlying39 rfl rfl (by repeat (first | exact List.Mem.head _ | apply List.Mem.tail)) (by rfl)).r ?_ | refine m_take 4 rfl (by kernel_rfl) (by decide) (by first | exact (List.Perm.refl _ : List.Perm _ ([] ++ _)) | exact (List.Perm.refl _ : List.Perm _ ([_] ++ _)) | exact (List.Perm.refl _ : List.Perm _ ([_, _] ++ _)) | exact (List.Perm.refl _ : List.Perm _ ([_, _, _] ++ _)) | exact (List.Perm.refl _ : List.Perm _ ([_, _, _, _] ++ _)) | exact (List.Perm.refl _ : List.Perm _ ([_, _, _, _, _] ++ _))) (by first | exact fun _ h => h | exact fun _ h => List.mem_cons_of_mem _ h | exact fun _ h => List.mem_cons_of_mem _ (List.mem_cons_of_mem _ h)) (r_load1 Try.underlying39 rfl rfl (by first | exact .fact (by repeat (first | exact List.Mem.head _ | apply List.Mem.tail)) | exact .own (by repeat (first | exact List.Mem.head _ | apply List.Mem.tail)) (by decide) (fun _ => rfl)) (by first | assumption | rfl) (by rfl)).r ?_ | refine m_take 4 rfl (by kernel_rfl) (by decide) (by first | exact (List.Perm.refl _ : List.Perm _ ([] ++ _)) | exact (List.Perm.refl _ : List.Perm _ ([_] ++ _)) | exact (List.Perm.refl _ : List.Perm _ ([_, _] ++ _)) | exact (List.Perm.refl _ : List.Perm _ ([_, _, _] ++ _)) | exact (List.Perm.refl _ : List.Perm _ ([_, _, _, _] ++ _)) | exact (List.Perm.refl _ : List.Perm _ ([_, _, _, _, _] ++ _))) (by first | exact fun _ h => h | exact fun _ h => List.mem_cons_of_mem _ h | exact fun _ h => List.mem_cons_of_mem _ (List.mem_cons_of_mem _ h)) (r_loadf Try.underlying39 rfl rfl (by first | exact .fact (by repeat (first | exact List.Mem.head _ | apply List.Mem.tail)) | exact .own (by repeat (first | exact List.Mem.head _ | apply List.Mem.tail)) (by decide) (fun _ => rfl)) (by assumption) (by rfl)).r ?_
      refine m_takep 5 rfl (by kernel_rfl) (by decide) (p_move rfl) ?_
      refine m_takep 6 rfl (by kernel_rfl) (by decide) (p_nilp rfl) ?_
      first | refine m_takep 7 rfl (by kernel_rfl) (by decide) (p_faddr (i := 2) 2 Try.underlying41 rfl inf_39 (by decide) rfl rfl) ?_ | refine m_takep 7 rfl (by kernel_rfl) (by decide) (p_faddro (i := 2) 2 Try.underlying41 rfl inf_39 (by decide) rfl rfl) ?_
      first | refine m_take 8 rfl (by kernel_rfl) (by decide) (by first | exact (List.Perm.refl _ : List.Perm _ ([] ++ _)) | exact (List.Perm.refl _ : List.Perm _ ([_] ++ _)) | exact (List.Perm.refl _ : List.Perm _ ([_, _] ++ _)) | exact (List.Perm.refl _ : List.Perm _ ([_, _, _] ++ _)) | exact (List.Perm.refl _ : List.Perm _ ([_, _, _, _] ++ _)) | exact (List.Perm.refl _ : List.Perm _ ([_, _, _, _, _] ++ _))) (by first | exact fun _ h => h | exact fun _ h => List.mem_cons_of_mem _ h | exact fun _ h => List.mem_cons_of_mem _ (List.mem_cons_of_mem _ h)) (r_loado Try.underlying39 rfl rfl (by repeat (first | exact List.Mem.head _ | apply List.Mem.tail)) (by rfl)).r ?_ | refine m_take 8 rfl (by kernel_rfl) (by decide) (by first | exact (List.Perm.refl _ : List.Perm _ ([] ++ _)) | exact (List.Perm.refl _ : List.Perm _ ([_] ++ _)) | exact (List.Perm.refl _ : List.Perm _ ([_, _] ++ _)) | exact (List.Perm.refl _ : List.Perm _ ([_, _, _] ++ _)) | exact (List.Perm.refl _ : List.Perm _ ([_, _, _, _] ++ _)) | exact (List.Perm.refl _ : List.Perm _ ([_, _, _, _, _] ++ _))) (by first | exact fun _ h => h | exact fun _ h => List.mem_cons_of_mem _ h | exact fun _ h => List.mem_cons_of_mem _ (List.mem_cons_of_mem _ h)) (r_load1 Try.underlying39 rfl rfl (by first | exact .fact (by repeat (first | exact List.Mem.head _ | apply List.Mem.tail)) | exact .own (by repeat (first | exact List.Mem.head _ | apply List.Mem.tail)) (by decide) (fun _ => rfl)) (by first | assumption | rfl) (by rfl)).r ?_ | refine m_take 8 rfl (by kernel_rfl) (by decide) (by first | exact (List.Perm.refl _ : List.Perm _ ([] ++ _)) | exact (List.Perm.refl _ : List.Perm _ ([_] ++ _)) | exact (List.Perm.refl _ : List.Perm _ ([_, _] ++ _)) | exact (List.Perm.refl _ : List.Perm _ ([_, _, _] ++ _)) | exact (List.Perm.refl _ : List.Perm _ ([_, _, _, _] ++ _)) | exact (List.Perm.refl _ : List.Perm _ ([_, _, _, _, _] ++ _))) (by first | exact fun _ h => h | exact fun _ h => List.mem_cons_of_mem _ h | exact fun _ h => List.mem_cons_of_mem _ (List.mem_cons_of_mem _ h)) (r_loadf Try.underlying39 rfl rfl (by first | exact .fact (by repeat (first | exact List.Mem.head _ | apply List.Mem.tail)) | exact .own (by repeat (first | exact List.Mem.head _ | apply List.Mem.tail)) (by decide) (fun _ => rfl)) (by assumption) (by rfl)).r ?_
      refine m_takep 9 rfl (by kernel_rfl) (by decide) (p_len_sl Try.underlying39 rfl) ?_
      first | refine m_takep 10 rfl (by kernel_rfl) (by decide) (p_sub (j := 1) rfl rfl rfl rfl (by omega) (by show _ ≤ (9223372036854775807 : Nat); omega)) ?_ | refine m_takep 10 rfl (by kernel_rfl) (by decide) (p_subi rfl rfl (by show (-9223372036854775808 : Int) ≤ _; omega) (by show _ ≤ ((9223372036854775807 : Nat) : Int); omega)) ?_
      first | refine m_takep 11 rfl (by kernel_rfl) (by decide) (p_part_h Try.underlying39 inf_3 rfl rfl rfl (by omega) (by omega)) ?_ | refine m_takep 11 rfl (by kernel_rfl) (by decide) (p_slices_h Try.underlying39 inf_3 rfl rfl rfl (by omega)) ?_
      refine m_takep 12 rfl (by kernel_rfl) (by decide) (p_nilp rfl) ?_
      first | refine m_takep 13 rfl (by kernel_rfl) (by decide) (p_faddr (i := 2) 2 Try.underlying41 rfl inf_39 (by decide) rfl rfl) ?_ | refine m_takep 13 rfl (by kernel_rfl) (by decide) (p_faddro (i := 2) 2 Try.underlying41 rfl inf_39 (by decide) rfl rfl) ?_
      refine m_run 14 rfl (by kernel_rfl) ?_
      first | (refine l_store inf_39 rfl rfl rfl rfl (by first | decide | exact Nat.le_of_ble_eq_true rfl | (simp; done) | omega | (simp only [Nat.mul_one]; assumption)) ?_) | (refine l_perm (front1 _ _ _) ?_; refine l_store inf_39 rfl rfl rfl rfl (by first | decide | exact Nat.le_of_ble_eq_true rfl | (simp; done) | omega | (simp only [Nat.mul_one]; assumption)) ?_) | (refine l_perm (front2 _ _ _ _) ?_; refine l_store inf_39 rfl rfl rfl rfl (by first | decide | exact Nat.le_of_ble_eq_true rfl | (simp; done) | omega | (simp only [Nat.mul_one]; assumption)) ?_) | (refine l_perm (front3 _ _ _ _ _) ?_; refine l_store inf_39 rfl rfl rfl rfl (by first | decide | exact Nat.le_of_ble_eq_true rfl | (simp; done) | omega | (simp only [Nat.mul_one]; assumption)) ?_) | (refine l_perm (front4 _ _ _ _ _ _) ?_; refine l_store inf_39 rfl rfl rfl rfl (by first | decide | exact Nat.le_of_ble_eq_true rfl | (simp; done) | omega | (simp only [Nat.mul_one]; assumption)) ?_)
      refine l_nil ?_
      refine m_late rfl ?_
      refine m_done (by kernel_rfl) ?_
      refine c_reg ?_
      refine l_q (by decide) (p_move rfl).q ?_
      refine l_q (by decide) (p_move rfl).q ?_
      refine l_perm (front2 _ _ _ _) ?_
      refine l_cut ((lv.drop q).reverse.length - 1) len_natF (Nat.sub_le _ _) ?_
      rw [drop_more, show (lv.drop q).reverse.length - 1 = (lv.drop (q + 1)).reverse.length by simp; omega]
      generalize subA B2 d2 0 1 = B3
      refine l_perm (List.perm_append_comm (l₁ := [_]) (l₂ := [_, _])) ?_
      refine l_callo (τ := [iCells b 41 [.slice A2 (o2 ++ List.replicate q (Lay.tok (defs + 2) p)).length c2, .int .i64 defs, .slice B3 (lv.drop (q + 1)).reverse.length d2], iSl 33 4 tokF A2 c2 (o2 ++ List.replicate q (Lay.tok (defs + 2) p))]) (σ := [iSl 3 1 natF B3 d2 (lv.drop (q + 1)).reverse]) (fun _ => .tuple #[]) (fun x : Option Addr × Nat => [iCells b 41 [.slice x.1 (o2 ++ List.replicate q (Lay.tok (defs + 2) p) ++ [Lay.tok (defs + (2 : Nat)) p]).length x.2, .int .i64 defs, .slice B3 (lv.drop (q + 1)).reverse.length d2], iSl 33 4 tokF x.1 x.2 (o2 ++ List.replicate q (Lay.tok (defs + 2) p) ++ [Lay.tok (defs + (2 : Nat)) p])]) (by decide) call_24 rfl (fun w hs => layout_ok b c2 2 p defs A2 _ (o2 ++ List.replicate q (Lay.tok (defs + 2) p)) (by decide) hp hd1 hd2 (by simp only [List.length_append, List.length_replicate]; omega) _ _ w hs) (fun x65 => ?_)
      refine l_nil ?_
      refine c_join ((q + 1), (x65.1), (x65.2), (B3), (d2)) ?_ ?_ ?_ ?_
      · show ((q + 1) ≤ Lay.pops dd lv) ∧ Lay.pops dd lv - (q + 1) < Lay.pops dd lv - q
        exact ⟨by omega, by omega⟩
      · exact ⟨rfl, rfl, rfl, trivial⟩
      · show List.Perm _ ([iCells b 41 [.slice (x65.1) (o2 ++ List.replicate (q + 1) (Lay.tok (defs + 2) p)).length (x65.2), .int .i64 defs, .slice (B3) (lv.drop (q + 1)).reverse.length (d2)], iSl 33 4 tokF (x65.1) (x65.2) (o2 ++ List.replicate (q + 1) (Lay.tok (defs + 2) p)), iSl 3 1 natF (B3) (d2) (lv.drop (q + 1)).reverse])
        rw [rep_more]; exact .refl _
      · exact fun _ h => h
    · skip
      refine c_exit ?_
      refine c_here ?_
      refine c_ret0 rfl (fun w hs => ?_)
      have hli := line_out (defs := defs) (p := p) (f := fb) (d := dd) (lv := lv) h16
      obtain rfl : q = Lay.pops dd lv := by omega
      refine ⟨((A2, c2), (B2, d2)), ρ, rfl, ?_⟩
      rw [hli.1, hli.2, ← List.append_assoc, ← ho2]; exact hs
end Go.Proofs.Ytejhgbnpmelgcaa
