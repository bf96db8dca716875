/- The walks of the recognizer, seventeenth part (works, add); conditions: lengths. -/
import Derived.Test.YtncagpppmaehhaaWalksP
namespace Go.Proofs.Ytncagpppmaehhaa
open Go Go.Fx Go.Proofs

open Go.Proofs.Rec
theorem p_cell {X : GI} {p bo n cs : Nat} {Ar : Option Addr} {w : World} (h : (iCells p 62 (pCells X bo Ar n cs)).holds w) {k : Nat} {v : Value} (hv : (pCells X bo Ar n cs)[k]? = some v) : w.cell? ⟨p, k, none⟩ = some v := (cells_cell h k).trans hv
abbrev prodT (X : GI) (bo : Nat) : World → Prop := Sl 1 boolF (some ⟨bo, 0, none⟩) (Ana.mkl X.g.n (pP X))
theorem ins_in {es : List Im} {x : Im} (h : x ∈ es) : ins es x = es := if_pos h
theorem ins_out {es : List Im} {x : Im} (h : ¬ x ∈ es) : ins es x = es ++ [x] := if_neg h
theorem inf_46 : InfoIs Try.prog 46 1 24 (.slice none 0 0) := by unfold InfoIs; kernel_rfl
theorem inf_57 : InfoIs Try.prog 57 1 8 (.map none) := by unfold InfoIs; kernel_rfl
theorem call_43 : Callable Try.prog 43 := ⟨_, Try.func43, by kernel_rfl, rfl⟩
theorem call_51 : Callable Try.prog 51 := ⟨_, Try.func51, by kernel_rfl, rfl⟩
theorem works1_ok (X : GI) (p bo n cs : Nat) (Ar : Option Addr) (hn : X.g.n ≤ 1000) (bb : Nat) (x : Int) (hr : x < 0 → Ana.nt x < X.g.n) (w : World) (h1 : (iCells bb 40 [.pointer (some ⟨p, 0, none⟩)]).holds w) (h2 : (iCells p 62 (pCells X bo Ar n cs)).holds w) (h3 : prodT X bo w) :
   Calls Try.prog 51 #[.int .i64 x, .pointer (some ⟨bb, 0, none⟩)] w (Ret fun v w' => v = .bool (decide (x < 0) && !pP X (Ana.nt x)) ∧ Ext [] w w') := by
 refine calls_fx (l := [.int .i64 x, .pointer (some ⟨bb, 0, none⟩)]) Try.func51 rfl Try.ntmps51 (Nat.le_of_ble_eq_true rfl) ((((St.start w).old h3 (dep_sl (by decide) h3)).old h2 (old_cells h2)).old h1 (old_cells h1)) ?_
 refine c_seq ?_
 refine c_reg ?_
 refine l_q (by decide) (p_assign rfl).q ?_
 refine l_nil ?_
 refine c_seq ?_
 refine c_reg ?_
 refine l_q (by decide) (p_move rfl).q ?_
 refine l_q (by decide) (p_lssi rfl rfl).q ?_
 refine l_q (by decide) (p_move rfl).q ?_
 refine l_splitd (t := 6) rfl (fun h6 => ?_) (fun h6 => ?_)
 ·skip
  have hrn := hr h6
  have hncs : Ana.nt x = (-1 - x).toNat := rfl
  refine l_g (j := 2) rfl rfl (by decide) (r_loadq (q := (iCells bb 40 [.pointer (some ⟨p, 0, none⟩)]).holds) Try.underlying40 rfl rfl (by repeat constructor) (fun w h => (cells_cell h 0).trans rfl)).q ?_
  refine l_g (j := 2) rfl rfl (by decide) (p_nilp rfl).q ?_
  refine l_g (j := 2) rfl rfl (by decide) (p_faddro (i := 1) 4 Try.underlying62 rfl inf_42 (by decide) rfl rfl).q ?_
  refine l_g (j := 2) rfl rfl (by decide) (r_loadq (q := (iCells p 62 (pCells X bo Ar n cs)).holds) Try.underlying42 rfl rfl (by repeat constructor) (fun w h => p_cell h rfl)).q ?_
  refine l_g (j := 2) rfl rfl (by decide) (p_move rfl).q ?_
  refine l_g (j := 2) rfl rfl (by decide) (((p_subi rfl rfl (by show (-9223372036854775808 : Int) ≤ _; omega) (by show _ ≤ ((9223372036854775807 : Nat) : Int); omega))).to (u := .int .i64 ((Ana.nt x : Nat) : Int)) (by rw [Ana.nt_cast h6])).q ?_
  refine l_g (j := 2) rfl rfl (by decide) (r_index (A := some ⟨bo, 0, none⟩) (es := Ana.mkl X.g.n (pP X)) (f := boolF) (j := Ana.nt x) Try.underlying42 inf_4 rfl rfl rfl (.fact (by repeat constructor)) (by rw [Ana.mkl_len]) (by rw [Ana.mkl_len]; exact (hr h6))).q ?_
  refine l_g (j := 2) rfl rfl (by decide) (r_load1 (f := boolF) (A := some ⟨bo, 0, none⟩) (es := Ana.mkl X.g.n (pP X)) (j := Ana.nt x) Try.underlying4 rfl rfl (.fact (by repeat constructor)) (Ana.mkl_at (hr h6)) rfl).q ?_
  refine l_g (j := 2) rfl rfl (by decide) (p_not rfl).q ?_
  refine l_q (by decide) (p_pick rfl rfl).q ?_
  refine l_q (by decide) (p_assign rfl).q ?_
  refine l_nil ?_
  refine c_ret ?_
  refine c_ret1 rfl rfl (fun w hs => ?_)
  exact ⟨by simp [h6], hs.ext⟩
 ·skip
  refine l_off (j := 2) rfl rfl (by (simp; done)) (by decide) ?_
  refine l_off (j := 2) rfl rfl (by (simp; done)) (by decide) ?_
  refine l_off (j := 2) rfl rfl (by (simp; done)) (by decide) ?_
  refine l_off (j := 2) rfl rfl (by (simp; done)) (by decide) ?_
  refine l_off (j := 2) rfl rfl (by (simp; done)) (by decide) ?_
  refine l_off (j := 2) rfl rfl (by (simp; done)) (by decide) ?_
  refine l_off (j := 2) rfl rfl (by (simp; done)) (by decide) ?_
  refine l_off (j := 2) rfl rfl (by (simp; done)) (by decide) ?_
  refine l_off (j := 2) rfl rfl (by (simp; done)) (by decide) ?_
  refine l_q (by decide) (p_pick rfl rfl).q ?_
  refine l_q (by decide) (p_assign rfl).q ?_
  refine l_nil ?_
  refine c_ret ?_
  refine c_ret1 rfl rfl (fun w hs => ?_)
  exact ⟨by simp [h6], hs.ext⟩

theorem works_ok (X : GI) (p bo n cs : Nat) (Ar : Option Addr) (hn : X.g.n ≤ 1000) (x : XR) (hbl : x.r.body.length ≤ 1000) (hr : ∀ y, y ∈ x.r.body → y < 0 → Ana.nt y < X.g.n) (w : World) (h2 : (iCells p 62 (pCells X bo Ar n cs)).holds w) (h3 : prodT X bo w) (h4 : Sl 1 intF x.A x.r.body w) :
   Calls Try.prog 43 #[.pointer (some ⟨p, 0, none⟩), .agg #[.int .i64 x.r.head, .slice x.A x.r.body.length x.c, .int .i64 x.r.price]] w (Ret fun v w' => v = .bool (Ana.allG true (pP X) x.r.body) ∧ Ext [] w w') := by
 refine calls_fx (l := [.pointer (some ⟨p, 0, none⟩), .agg #[.int .i64 x.r.head, .slice x.A x.r.body.length x.c, .int .i64 x.r.price]]) Try.func43 rfl Try.ntmps43 (Nat.le_of_ble_eq_true rfl) ((((St.start w).old h3 (dep_sl (by decide) h3)).old h2 (old_cells h2)).old h4 (dep_sl (by decide) h4)) ?_
 refine c_seq ?_
 refine c_reg ?_
 refine l_box (by decide) rfl _ rfl (fun b2 => ?_)
 refine l_box (by decide) rfl _ rfl (fun b3 => ?_)
 refine l_q (by decide) (p_assign rfl).q ?_
 refine l_nil ?_
 refine c_seq ?_
 refine c_reg ?_
 refine l_q (by decide) (p_faddro (i := 1) 1 Try.underlying49 rfl inf_26 (by decide) rfl rfl).q ?_
 refine l_q (by decide) (r_loado Try.underlying26 rfl rfl (by repeat constructor) (by rfl)).q ?_
 refine l_q (by decide) (p_makeFn rfl rfl).q ?_
 refine l_q (by decide) (q_call call_50 rfl (fun w hs => containsi_ok 51 call_51 #[.pointer (some ⟨b2, 0, none⟩)] (fun y => decide (y < 0) && !pP X (Ana.nt y)) x.A x.c x.r.body (by omega) w (hs.facts (Sl 1 intF x.A x.r.body) (by repeat constructor)).1 (fun y hy w2 he => works1_ok X p bo n cs Ar hn b2 y (hr y hy) w2 (hold_ext hs (x := iCells b2 40 [.pointer (some ⟨p, 0, none⟩)]) (by repeat constructor) he) ((hs.move he).facts ((iCells p 62 (pCells X bo Ar n cs)).holds) (by repeat constructor)).1 ((hs.move he).facts (prodT X bo) (by repeat constructor)).1))) ?_
 refine l_q (by decide) (p_not rfl).q ?_
 refine l_q (by decide) (p_assign rfl).q ?_
 refine l_nil ?_
 refine c_ret ?_
 refine c_ret1 rfl rfl (fun w hs => ?_)
 exact ⟨by rw [works_any], hs.ext⟩

theorem add1_ok (b : Nat) (A : Option Addr) (c m : Nat) (es : List Im) (x : Im) (hl : es.length ≤ 100000) (ρ : Fx.Facts) (w : World) (h : St w (keysOf [iCells b 59 [.slice A es.length c, .map (some m)], iSl 52 3 imF A c es, iMap imK m es]) w [iCells b 59 [.slice A es.length c, .map (some m)], iSl 52 3 imF A c es, iMap imK m es] ρ) :
   Calls Try.prog 44 #[.pointer (some ⟨b, 0, none⟩), imK x] w (Ret fun v w' => ∃ (y : Option Addr × Nat × Nat) (ρ' : Facts), v = .tuple #[] ∧ St w (keysOf [iCells b 59 [.slice A es.length c, .map (some m)], iSl 52 3 imF A c es, iMap imK m es]) w' [iCells b 59 [.slice y.1 (ins es x).length y.2.1, .map (some y.2.2)], iSl 52 3 imF y.1 y.2.1 (ins es x), iMap imK y.2.2 (ins es x)] ρ') := by
 refine calls_fx (l := [.pointer (some ⟨b, 0, none⟩), imK x]) Try.func44 rfl Try.ntmps44 (Nat.le_of_ble_eq_true rfl) h ?_
 refine c_seq ?_
 refine c_reg ?_
 refine l_box (by decide) rfl _ rfl (fun b3 => ?_)
 refine l_nil ?_
 refine c_seq ?_
 refine c_seq ?_
 refine c_reg ?_
 refine l_q (by decide) (p_move rfl).q ?_
 refine l_q (by decide) (p_nilp rfl).q ?_
 refine l_q (by decide) (p_faddro (i := 1) 1 Try.underlying59 rfl inf_57 (by decide) rfl rfl).q ?_
 refine l_q (by decide) (r_loado Try.underlying57 rfl rfl (by repeat constructor) (by rfl)).q ?_
 refine l_q (by decide) (((p_eqmn Try.underlying57 rfl rfl)).to (u := .bool false) (rfl)).q ?_
 refine l_nil ?_
 refine c_false rfl ?_
 refine c_skip ?_
 refine c_seq ?_
 refine c_draw mixed (by decide +kernel) ?_
 refine q_q (by decide) (p_move rfl).q ?_
 refine q_q (by decide) (p_nilp rfl).q ?_
 refine q_q (by decide) (p_faddro (i := 1) 1 Try.underlying59 rfl inf_57 (by decide) rfl rfl).q ?_
 refine q_q (by decide) (r_loado Try.underlying57 rfl rfl (by repeat constructor) (by rfl)).q ?_
 refine q_q (by decide) (r_loadow Try.underlying52 rfl inf_52 rfl (by repeat constructor) (by rfl)).q ?_
 refine q_q (by decide) (r_lookup (k := x) keyOk_item Try.underlying57 inf_4 rfl rfl rfl (.own (by repeat constructor))).q ?_
 refine q_q (by decide) (p_notd rfl).q ?_
 refine q_nil ?_
 refine c_dec rfl (fun h19 => ?_) (fun h19 => ?_)
 ·skip
  refine c_seq ?_
  refine t_draw 5 mixed ?_
  refine t_take 0 rfl (by kernel_rfl) (by decide) (p_move rfl).r ?_
  refine t_take 1 rfl (by kernel_rfl) (by decide) (p_nilp rfl).r ?_
  refine t_take 2 rfl (by kernel_rfl) (by decide) (p_faddro (i := 1) 1 Try.underlying59 rfl inf_57 (by decide) rfl rfl).r ?_
  refine t_take 3 rfl (by kernel_rfl) (by decide) (r_loado Try.underlying57 rfl rfl (by repeat constructor) (by rfl)).r ?_
  refine t_take 4 rfl (by kernel_rfl) (by decide) (r_loadow Try.underlying52 rfl inf_52 rfl (by repeat constructor) (by rfl)).r ?_
  refine t_last rfl (by kernel_rfl) ?_
  (refine l_perm (front3 _ _ _ _ _) ?_; refine l_mapUpd (k := x) keyOk_item Try.underlying57 rfl rfl rfl rfl ?_)
  refine l_nil ?_
  refine c_perm (show List.Perm _ (iSl 52 3 imF A c _ :: _) from front3 _ _ _ _ _) ?_
  refine m_draw [7, 10] mixed ?_
  refine m_takep 0 rfl (by kernel_rfl) (by decide) (p_move rfl) ?_
  refine m_takep 1 rfl (by kernel_rfl) (by decide) (p_move rfl) ?_
  refine m_takep 2 rfl (by kernel_rfl) (by decide) (p_nilp rfl) ?_
  refine m_takep 3 rfl (by kernel_rfl) (by decide) (p_faddro (i := 0) 0 Try.underlying59 rfl inf_46 (by decide) rfl rfl) ?_
  refine m_take 4 rfl (by kernel_rfl) (by decide) (by exact (List.Perm.refl _ : List.Perm _ ([] ++ _))) (by exact fun _ h => h) (r_loado Try.underlying46 rfl rfl (by repeat constructor) (by rfl)).r ?_
  refine m_take 5 rfl (by kernel_rfl) (by decide) (by exact (List.Perm.refl _ : List.Perm _ ([] ++ _))) (by exact fun _ h => h) (r_loadow Try.underlying52 rfl inf_52 rfl (by repeat constructor) (by rfl)).r ?_
  refine m_run 6 rfl (by kernel_rfl) ?_
  refine l_buildSlice (by decide) Try.underlying46 inf_52 (by decide) (by decide) rfl rfl rfl rfl (fun b31 => ?_)
  refine l_nil ?_
  refine m_next _ (by exact (List.Perm.refl _ : List.Perm _ ([_] ++ _))) (by exact fun _ h => h) ?_
  refine m_run 7 rfl (by kernel_rfl) ?_
  (refine l_append1 (x) (by decide) Try.underlying46 inf_52 rfl (by decide) rfl rfl rfl rfl rfl rfl (by omega) (by omega) (fun A32 c32 hA32 => ?_))
  refine l_nil ?_
  refine m_late rfl ?_
  refine m_takep 8 rfl (by kernel_rfl) (by decide) (p_nilp rfl) ?_
  refine m_takep 9 rfl (by kernel_rfl) (by decide) (p_faddro (i := 0) 0 Try.underlying59 rfl inf_46 (by decide) rfl rfl) ?_
  refine m_run 10 rfl (by kernel_rfl) ?_
  (refine l_perm (front3 _ _ _ _ _) ?_; refine l_store inf_46 rfl rfl rfl rfl (by exact Nat.le_of_ble_eq_true rfl) ?_)
  refine l_nil ?_
  refine m_late rfl ?_
  refine m_done (by kernel_rfl) ?_
  refine c_ret0 rfl (fun w hs => ?_)
  exact ⟨(A32, c32, m), _, rfl, by rw [ins_out (show ¬ x ∈ es by simpa using h19)] at hs ⊢; exact (hs.perm (front3 _ _ _ _ _)).drop⟩
 ·skip
  refine c_skip ?_
  refine c_ret0 rfl (fun w hs => ?_)
  exact ⟨(A, c, m), _, rfl, by rw [ins_in (by simpa using h19)]; exact hs.drop⟩

theorem add0_ok (b : Nat) (A : Option Addr) (c : Nat) (x : Im) (ρ : Fx.Facts) (w : World) (h : St w (keysOf [iCells b 59 [.slice A ([] : List Im).length c, .map none], iSl 52 3 imF A c ([] : List Im)]) w [iCells b 59 [.slice A ([] : List Im).length c, .map none], iSl 52 3 imF A c ([] : List Im)] ρ) :
   Calls Try.prog 44 #[.pointer (some ⟨b, 0, none⟩), imK x] w (Ret fun v w' => ∃ (y : Option Addr × Nat × Nat) (ρ' : Facts), v = .tuple #[] ∧ St w (keysOf [iCells b 59 [.slice A ([] : List Im).length c, .map none], iSl 52 3 imF A c ([] : List Im)]) w' [iCells b 59 [.slice y.1 (ins ([] : List Im) x).length y.2.1, .map (some y.2.2)], iSl 52 3 imF y.1 y.2.1 (ins ([] : List Im) x), iMap imK y.2.2 (ins ([] : List Im) x)] ρ') := by
 refine calls_fx (l := [.pointer (some ⟨b, 0, none⟩), imK x]) Try.func44 rfl Try.ntmps44 (Nat.le_of_ble_eq_true rfl) h ?_
 refine c_seq ?_
 refine c_reg ?_
 refine l_box (by decide) rfl _ rfl (fun b3 => ?_)
 refine l_nil ?_
 refine c_seq ?_
 refine c_seq ?_
 refine c_reg ?_
 refine l_q (by decide) (p_move rfl).q ?_
 refine l_q (by decide) (p_nilp rfl).q ?_
 refine l_q (by decide) (p_faddro (i := 1) 1 Try.underlying59 rfl inf_57 (by decide) rfl rfl).q ?_
 refine l_q (by decide) (r_loado Try.underlying57 rfl rfl (by repeat constructor) (by rfl)).q ?_
 refine l_q (by decide) (((p_eqmn Try.underlying57 rfl rfl)).to (u := .bool true) (rfl)).q ?_
 refine l_nil ?_
 refine c_true rfl ?_
 refine c_reg ?_
 refine l_q (by decide) (p_move rfl).q ?_
 refine l_makeMap imK (by decide) (fun b10 => ?_)
 refine l_q (by decide) (p_nilp rfl).q ?_
 refine l_q (by decide) (p_faddro (i := 1) 1 Try.underlying59 rfl inf_57 (by decide) rfl rfl).q ?_
 (refine l_perm (front2 _ _ _ _) ?_; refine l_store inf_57 rfl rfl rfl rfl (by exact Nat.le_of_ble_eq_true rfl) ?_)
 refine l_nil ?_
 refine c_seq ?_
 refine c_draw mixed (by decide +kernel) ?_
 refine q_q (by decide) (p_move rfl).q ?_
 refine q_q (by decide) (p_nilp rfl).q ?_
 refine q_q (by decide) (p_faddro (i := 1) 1 Try.underlying59 rfl inf_57 (by decide) rfl rfl).q ?_
 refine q_q (by decide) (r_loado Try.underlying57 rfl rfl (by repeat constructor) (by rfl)).q ?_
 refine q_q (by decide) (r_loadow Try.underlying52 rfl inf_52 rfl (by repeat constructor) (by rfl)).q ?_
 refine q_q (by decide) (r_lookup (k := x) keyOk_item Try.underlying57 inf_4 rfl rfl rfl (.own (by repeat constructor))).q ?_
 refine q_q (by decide) (p_notd rfl).q ?_
 refine q_nil ?_
 refine c_dec rfl (fun h19 => ?_) (fun h19 => ?_)
 ·skip
  refine c_seq ?_
  refine t_draw 5 mixed ?_
  refine t_take 0 rfl (by kernel_rfl) (by decide) (p_move rfl).r ?_
  refine t_take 1 rfl (by kernel_rfl) (by decide) (p_nilp rfl).r ?_
  refine t_take 2 rfl (by kernel_rfl) (by decide) (p_faddro (i := 1) 1 Try.underlying59 rfl inf_57 (by decide) rfl rfl).r ?_
  refine t_take 3 rfl (by kernel_rfl) (by decide) (r_loado Try.underlying57 rfl rfl (by repeat constructor) (by rfl)).r ?_
  refine t_take 4 rfl (by kernel_rfl) (by decide) (r_loadow Try.underlying52 rfl inf_52 rfl (by repeat constructor) (by rfl)).r ?_
  refine t_last rfl (by kernel_rfl) ?_
  (refine l_perm (front1 _ _ _) ?_; refine l_mapUpd (k := x) keyOk_item Try.underlying57 rfl rfl rfl rfl ?_)
  refine l_nil ?_
  refine c_perm (show List.Perm _ (iSl 52 3 imF A c _ :: _) from front3 _ _ _ _ _) ?_
  refine m_draw [7, 10] mixed ?_
  refine m_takep 0 rfl (by kernel_rfl) (by decide) (p_move rfl) ?_
  refine m_takep 1 rfl (by kernel_rfl) (by decide) (p_move rfl) ?_
  refine m_takep 2 rfl (by kernel_rfl) (by decide) (p_nilp rfl) ?_
  refine m_takep 3 rfl (by kernel_rfl) (by decide) (p_faddro (i := 0) 0 Try.underlying59 rfl inf_46 (by decide) rfl rfl) ?_
  refine m_take 4 rfl (by kernel_rfl) (by decide) (by exact (List.Perm.refl _ : List.Perm _ ([] ++ _))) (by exact fun _ h => h) (r_loado Try.underlying46 rfl rfl (by repeat constructor) (by rfl)).r ?_
  refine m_take 5 rfl (by kernel_rfl) (by decide) (by exact (List.Perm.refl _ : List.Perm _ ([] ++ _))) (by exact fun _ h => h) (r_loadow Try.underlying52 rfl inf_52 rfl (by repeat constructor) (by rfl)).r ?_
  refine m_run 6 rfl (by kernel_rfl) ?_
  refine l_buildSlice (by decide) Try.underlying46 inf_52 (by decide) (by decide) rfl rfl rfl rfl (fun b31 => ?_)
  refine l_nil ?_
  refine m_next _ (by exact (List.Perm.refl _ : List.Perm _ ([_] ++ _))) (by exact fun _ h => h) ?_
  refine m_run 7 rfl (by kernel_rfl) ?_
  (refine l_append1 (x) (by decide) Try.underlying46 inf_52 rfl (by decide) rfl rfl rfl rfl rfl rfl (by simp) (by simp) (fun A32 c32 hA32 => ?_))
  refine l_nil ?_
  refine m_late rfl ?_
  refine m_takep 8 rfl (by kernel_rfl) (by decide) (p_nilp rfl) ?_
  refine m_takep 9 rfl (by kernel_rfl) (by decide) (p_faddro (i := 0) 0 Try.underlying59 rfl inf_46 (by decide) rfl rfl) ?_
  refine m_run 10 rfl (by kernel_rfl) ?_
  (refine l_perm (front2 _ _ _ _) ?_; refine l_store inf_46 rfl rfl rfl rfl (by exact Nat.le_of_ble_eq_true rfl) ?_)
  refine l_nil ?_
  refine m_late rfl ?_
  refine m_done (by kernel_rfl) ?_
  refine c_ret0 rfl (fun w hs => ?_)
  exact ⟨(A32, c32, b10), _, rfl, by rw [ins_out (show ¬ x ∈ ([] : List Im) by simp)] at hs ⊢; exact (hs.perm (front3 _ _ _ _ _)).drop⟩
 ·skip
  refine c_skip ?_
  refine c_ret0 rfl (fun w hs => ?_)
  simp at h19

/-- add adds an item -/
theorem add_ok (S : ES) (hS : S.ok) (x : Im) (hl : S.es.length ≤ 100000) (ρ : Fx.Facts) (w : World) (h : St w (keysOf (setO S)) w (setO S) ρ) : Calls Try.prog 44 #[.pointer (some ⟨S.b, 0, none⟩), imK x] w (Ret fun v w' => ∃ (y : Option Addr × Nat × Nat) (ρ' : Facts), v = .tuple #[] ∧ St w (keysOf (setO S)) w' (setO (S.add x y)) ρ') := by
  obtain ⟨b, A, c, m, es⟩ := S
  cases m with
  | none =>
    obtain rfl : es = [] := hS rfl
    exact add0_ok b A c x ρ w h
  | some m => exact add1_ok b A c m es x hl ρ w h
end Go.Proofs.Ytncagpppmaehhaa
