/- The walks of the off-side rule, sixth part; conditions: none. -/
import Derived.Test.YtejhgbnpmelgcaaWalksE
namespace Go.Proofs.Ytejhgbnpmelgcaa
open Go Go.Fx Go.Proofs

abbrev Rx : List Lay.T := [⟨0, 0, [97], 0⟩, Lay.tok 2 4, ⟨0, 4, [97], 0⟩, Lay.tok 1 6, Lay.tok 3 6, ⟨0, 6, [97], 0⟩, Lay.tok 1 7]
abbrev Lx : List Lay.T := [⟨0, 0, [97], 0⟩, ⟨0, 4, [97], 0⟩, ⟨0, 6, [97], 0⟩]
abbrev Sx : List UInt8 := [97, 10, 32, 32, 97, 10, 97]
theorem app_x : Lay.app Lx Sx 1 = Rx := by decide +kernel
theorem apply_as (A : Option Addr) (c : Nat) (w : World) (hq : Sl 4 tokF A Lx w) : Calls Try.prog 13 #[.slice A Lx.length c, str Sx, .int .i64 1] w (Ret fun v w' => ∃ x : Capd Rx, v = .slice x.1.1 Rx.length x.1.2 ∧ Sl 4 tokF x.1.1 Rx w' ∧ Dep w.heap.size w'.heap.size (Sl 4 tokF x.1.1 Rx) ∧ Ext [] w w') := by
  have := apply_ok A c Lx Sx 1 (by decide) (by decide) (by decide) (by decide) (by decide) w hq
  rw [app_x] at this; exact this
theorem kinds_true (A B : Option Addr) (c d : Nat) (l : List Lay.T) (m : List Int) (h : Lay.kinds l = m) (hl : l.length < 1000000) (w : World) (hq : Sl 4 tokF A l w) (hp : Sl 1 intF B m w) : Calls Try.prog 21 #[.slice A l.length c, .slice B m.length d] w (Ret fun v w' => v = .bool true ∧ Ext [] w w') := by
  have := kinds_ok A B c d l m hl w hq hp
  rw [decide_eq_true h] at this; exact this
theorem same_true (A B : Option Addr) (c d : Nat) (l m : List Lay.T) (h : l = m) (hl : l.length < 1000000) (w : World) (hq : Sl 4 tokF A l w) (hp : Sl 4 tokF B m w) : Calls Try.prog 12 #[.slice A l.length c, .slice B m.length d] w (Ret fun v w' => v = .bool true ∧ Ext [] w w') := by
  have := same_ok A B c d l m hl w hq hp
  rw [decide_eq_true h] at this; exact this
theorem bal_as (A : Option Addr) (c : Nat) (l : List Lay.T) (defs : Int) (b : Bool) (h : Lay.bal defs 0 l = b) (hd1 : -1000 ≤ defs) (hd2 : defs ≤ 1000) (hl : l.length < 1000000) (hk : ∀ t, t ∈ l → -9223372036854775808 ≤ t.kind ∧ t.kind ≤ 9223372036854775807) (w : World) (hq : Sl 4 tokF A l w) : Calls Try.prog 17 #[.slice A l.length c, .int .i64 defs] w (Ret fun v w' => v = .bool b ∧ Ext [] w w') := by
  have := bal_ok A c l defs hd1 hd2 hl hk w hq
  rw [h] at this; exact this
theorem balref_as (A : Option Addr) (c : Nat) (l : List Lay.T) (defs : Int) (b : Bool) (h : Lay.bal defs 0 l = b) (hd1 : -1000 ≤ defs) (hd2 : defs ≤ 1000) (hl : l.length < 1000000) (hk : ∀ t, t ∈ l → -9223372036854775808 ≤ t.kind ∧ t.kind ≤ 9223372036854775807) (w : World) (hq : Sl 4 tokF A l w) : Calls Try.prog 16 #[.slice A l.length c, .int .i64 defs] w (Ret fun v w' => v = .bool b ∧ Ext [] w w') := by
  have := balref_ok A c l defs hd1 hd2 hl hk w hq
  rw [h] at this; exact this
theorem app_short {l : List Lay.T} {s : List UInt8} {defs : Int} (h : Lay.Fair l s defs) : (Lay.app l s defs).length < 1000000 := by
  have := Lay.app_len l s defs
  have := h.len
  omega
theorem app_kinds {l : List Lay.T} {s : List UInt8} {defs : Int} (h : Lay.Fair l s defs) (hk : ∀ t, t ∈ l → -9223372036854775808 ≤ t.kind ∧ t.kind ≤ 9223372036854775807) : ∀ t, t ∈ Lay.app l s defs → -9223372036854775808 ≤ t.kind ∧ t.kind ≤ 9223372036854775807 := fun t ht => by
  have h0 := h.d0
  have h1 := h.d1
  rcases Lay.app_kind l s defs t ht with h2 | h2
  · exact hk t h2
  · omega
theorem inf_9 : InfoIs Try.prog 9 1 16 (.string ⟨#[]⟩) := by unfold InfoIs; kernel_rfl
theorem inf_24 : InfoIs Try.prog 24 3 48 (.agg #[.slice none 0 0, .string ⟨#[]⟩, .int .i64 0]) := by unfold InfoIs; kernel_rfl
theorem call_10 : Callable Try.prog 10 := ⟨_, Try.func10, by kernel_rfl, rfl⟩
theorem call_11 : Callable Try.prog 11 := ⟨_, Try.func11, by kernel_rfl, rfl⟩
theorem call_12 : Callable Try.prog 12 := ⟨_, Try.func12, by kernel_rfl, rfl⟩
theorem call_13 : Callable Try.prog 13 := ⟨_, Try.func13, by kernel_rfl, rfl⟩
theorem call_14 : Callable Try.prog 14 := ⟨_, Try.func14, by kernel_rfl, rfl⟩
theorem call_15 : Callable Try.prog 15 := ⟨_, Try.func15, by kernel_rfl, rfl⟩
theorem call_16 : Callable Try.prog 16 := ⟨_, Try.func16, by kernel_rfl, rfl⟩
theorem call_17 : Callable Try.prog 17 := ⟨_, Try.func17, by kernel_rfl, rfl⟩
theorem call_18 : Callable Try.prog 18 := ⟨_, Try.func18, by kernel_rfl, rfl⟩
theorem call_19 : Callable Try.prog 19 := ⟨_, Try.func19, by kernel_rfl, rfl⟩
theorem call_21 : Callable Try.prog 21 := ⟨_, Try.func21, by kernel_rfl, rfl⟩
theorem awake_ok (w : World) :
    Calls Try.prog 10 #[] w (Ret fun v w' => v = .bool true ∧ Ext [] w w') := by
  refine calls_fx (l := []) Try.func10 rfl Try.ntmps10 (Nat.le_of_ble_eq_true rfl) (St.start w) ?_
  refine c_seq ?_
  refine c_reg ?_
  refine l_q (by decide) (p_assign rfl).q ?_
  refine l_nil ?_
  refine c_seq ?_
  refine c_reg ?_
  refine l_q (by decide) (p_build (cells := #[_, _, _, _]) inf_33 pl_33 rfl rfl).q ?_
  refine l_q (by decide) (p_build (cells := #[_, _, _, _]) inf_33 pl_33 rfl rfl).q ?_
  refine l_q (by decide) (p_build (cells := #[_, _, _, _]) inf_33 pl_33 rfl rfl).q ?_
  refine l_buildSlice (by decide) Try.underlying22 inf_33 (by decide) (by decide) rfl rfl rfl rfl (fun b5 => ?_)
  refine l_sealc tokF Lx rfl len_tokF ?_
  refine l_call (X := Capd Rx) (fun x => .slice x.1.1 Rx.length x.1.2) (fun x => Sl 4 tokF x.1.1 Rx) (by decide) call_13 rfl (fun w hs => apply_as _ _ w (hs.facts _ (by repeat (first | exact List.Mem.head _ | apply List.Mem.tail))).1) (fun x6 => ?_)
  refine l_q (by decide) (p_assign rfl).q ?_
  refine l_nil ?_
  refine c_seq ?_
  refine c_reg ?_
  refine l_q (by decide) (p_move rfl).q ?_
  refine l_buildSlice (by decide) Try.underlying35 inf_3 (by decide) (by decide) rfl rfl rfl rfl (fun b8 => ?_)
  refine l_sealc intF [0, 2, 0, 1, 3, 0, 1] rfl len_intF ?_
  refine l_q (by decide) (q_call call_21 rfl (fun w hs => kinds_true x6.1.1 (some ⟨b8, 0, none⟩) x6.1.2 7 Rx [0, 2, 0, 1, 3, 0, 1] (by decide +kernel) (by decide) w (hs.facts _ (by repeat (first | exact List.Mem.head _ | apply List.Mem.tail))).1 (hs.facts _ (by repeat (first | exact List.Mem.head _ | apply List.Mem.tail))).1)) ?_
  refine l_q (by decide) (p_move rfl).q ?_
  refine l_g (j := 3) rfl rfl (by decide) (p_move rfl).q ?_
  refine l_g (j := 3) rfl rfl (by decide) (q_call call_17 rfl (fun w hs => bal_as x6.1.1 x6.1.2 Rx 1 true (by decide +kernel) (by decide) (by decide) (by decide) (by decide) w (hs.facts _ (by repeat (first | exact List.Mem.head _ | apply List.Mem.tail))).1)) ?_
  refine l_q (by decide) (p_pick rfl rfl).q ?_
  refine l_q (by decide) (p_move rfl).q ?_
  refine l_g (j := 7) rfl rfl (by decide) (p_move rfl).q ?_
  have hpx : 7 ≤ x6.1.2 := x6.2
  refine l_g (j := 7) rfl rfl (by decide) (p_part_h (es := Rx) (j := 3) Try.underlying22 inf_33 rfl rfl rfl hpx (by decide)).q ?_
  have hpx := x6.2
  refine l_part (f := tokF) (A := x6.1.1) (es := Rx) x6.1.2 0 3 (by repeat (first | exact List.Mem.head _ | apply List.Mem.tail)) x6.2 (by decide) ?_
  refine l_g (j := 7) rfl rfl (by decide) (q_call call_17 rfl (fun w hs => bal_as (subA x6.1.1 x6.1.2 0 4) x6.1.2 (Rx.take 3) 1 false (by decide +kernel) (by decide) (by decide) (by decide) (by decide) w (hs.facts _ (by repeat (first | exact List.Mem.head _ | apply List.Mem.tail))).1)) ?_
  refine l_g (j := 7) rfl rfl (by decide) (p_not rfl).q ?_
  refine l_q (by decide) (p_pick rfl rfl).q ?_
  refine l_q (by decide) (p_move rfl).q ?_
  refine l_g (j := 13) rfl rfl (by decide) (p_move rfl).q ?_
  refine l_strip (j := 13) rfl rfl ?_
  refine l_call (X := Option Addr × Nat) (fun x => .slice x.1 (Lay.strip 1 Rx).length x.2) (fun x => Sl 4 tokF x.1 (Lay.strip 1 Rx)) (by decide) call_18 rfl (fun w hs => strip_ok x6.1.1 x6.1.2 Rx 1 (by decide) w (hs.facts _ (by repeat (first | exact List.Mem.head _ | apply List.Mem.tail))).1) (fun x22 => ?_)
  refine l_g (j := 13) rfl rfl (by decide) (p_len_sl Try.underlying22 rfl).q ?_
  first | refine l_g (j := 13) rfl rfl (by decide) (((p_eql (j := 3) rfl rfl rfl rfl)).to (u := .bool true) (by rw [decide_eq_true (show (Lay.strip 1 Rx).length = 3 by decide +kernel)])).q ?_ | refine l_g (j := 13) rfl rfl (by decide) (((p_eqli rfl rfl)).to (u := .bool true) (by rw [decide_eq_true (show (Lay.strip 1 Rx).length = 3 by decide +kernel)])).q ?_
  refine l_q (by decide) (p_pick rfl rfl).q ?_
  refine l_q (by decide) (p_assign rfl).q ?_
  refine l_nil ?_
  refine c_ret ?_
  refine c_ret1 rfl rfl (fun w hs => ?_)
  exact ⟨rfl, hs.ext⟩

theorem match_law (A : Option Addr) (c : Nat) (l : List Lay.T) (s : List UInt8) (defs : Int) (hl : l.length ≤ 140737488351232) (hsl : s.length ≤ 140737488351232) (hk : ∀ t, t ∈ l → -9223372036854775808 ≤ t.kind ∧ t.kind ≤ 9223372036854775807) (w : World) (hq : Sl 4 tokF A l w) :
    Calls Try.prog 3 #[.agg #[.slice A l.length c, str s, .int .i64 defs]] w (Ret fun v w' => v = .bool true ∧ Ext [] w w') := by
  refine calls_fx (l := [.agg #[.slice A l.length c, str s, .int .i64 defs]]) Try.func3 rfl Try.ntmps3 (Nat.le_of_ble_eq_true rfl) ((St.start w).old hq (dep_sl (by decide) hq)) ?_
  refine c_seq ?_
  refine c_reg ?_
  refine l_box (by decide) rfl _ rfl (fun b1 => ?_)
  refine l_q (by decide) (p_assign rfl).q ?_
  refine l_nil ?_
  refine c_seq ?_
  refine c_seq ?_
  refine c_reg ?_
  refine l_q (by decide) (q_call call_10 rfl (fun w hs => awake_ok w)) ?_
  refine l_q (by decide) (p_not rfl).q ?_
  refine l_nil ?_
  refine c_false rfl ?_
  refine c_skip ?_
  refine c_seq ?_
  refine c_seq ?_
  refine c_reg ?_
  first | refine l_q (by decide) (p_faddr (i := 0) 0 Try.underlying24 rfl inf_22 (by decide) rfl rfl).q ?_ | refine l_q (by decide) (p_faddro (i := 0) 0 Try.underlying24 rfl inf_22 (by decide) rfl rfl).q ?_
  first | refine l_q (by decide) (r_loado Try.underlying22 rfl rfl (by repeat (first | exact List.Mem.head _ | apply List.Mem.tail)) (by rfl)).q ?_ | refine l_q (by decide) (r_load1 Try.underlying22 rfl rfl (by first | exact .fact (by repeat (first | exact List.Mem.head _ | apply List.Mem.tail)) | exact .own (by repeat (first | exact List.Mem.head _ | apply List.Mem.tail)) (by decide) (fun _ => rfl)) (by first | assumption | rfl) (by rfl)).q ?_ | refine l_q (by decide) (r_loadf Try.underlying22 rfl rfl (by first | exact .fact (by repeat (first | exact List.Mem.head _ | apply List.Mem.tail)) | exact .own (by repeat (first | exact List.Mem.head _ | apply List.Mem.tail)) (by decide) (fun _ => rfl)) (by assumption) (by rfl)).q ?_
  first | refine l_q (by decide) (p_faddr (i := 1) 1 Try.underlying24 rfl inf_9 (by decide) rfl rfl).q ?_ | refine l_q (by decide) (p_faddro (i := 1) 1 Try.underlying24 rfl inf_9 (by decide) rfl rfl).q ?_
  first | refine l_q (by decide) (r_loado Try.underlying9 rfl rfl (by repeat (first | exact List.Mem.head _ | apply List.Mem.tail)) (by rfl)).q ?_ | refine l_q (by decide) (r_load1 Try.underlying9 rfl rfl (by first | exact .fact (by repeat (first | exact List.Mem.head _ | apply List.Mem.tail)) | exact .own (by repeat (first | exact List.Mem.head _ | apply List.Mem.tail)) (by decide) (fun _ => rfl)) (by first | assumption | rfl) (by rfl)).q ?_ | refine l_q (by decide) (r_loadf Try.underlying9 rfl rfl (by first | exact .fact (by repeat (first | exact List.Mem.head _ | apply List.Mem.tail)) | exact .own (by repeat (first | exact List.Mem.head _ | apply List.Mem.tail)) (by decide) (fun _ => rfl)) (by assumption) (by rfl)).q ?_
  first | refine l_q (by decide) (p_faddr (i := 2) 2 Try.underlying24 rfl inf_3 (by decide) rfl rfl).q ?_ | refine l_q (by decide) (p_faddro (i := 2) 2 Try.underlying24 rfl inf_3 (by decide) rfl rfl).q ?_
  first | refine l_q (by decide) (r_loado Try.underlying3 rfl rfl (by repeat (first | exact List.Mem.head _ | apply List.Mem.tail)) (by rfl)).q ?_ | refine l_q (by decide) (r_load1 Try.underlying3 rfl rfl (by first | exact .fact (by repeat (first | exact List.Mem.head _ | apply List.Mem.tail)) | exact .own (by repeat (first | exact List.Mem.head _ | apply List.Mem.tail)) (by decide) (fun _ => rfl)) (by first | assumption | rfl) (by rfl)).q ?_ | refine l_q (by decide) (r_loadf Try.underlying3 rfl rfl (by first | exact .fact (by repeat (first | exact List.Mem.head _ | apply List.Mem.tail)) | exact .own (by repeat (first | exact List.Mem.head _ | apply List.Mem.tail)) (by decide) (fun _ => rfl)) (by assumption) (by rfl)).q ?_
  refine l_q (by decide) (q_call call_11 rfl (fun w hs => fair_ok A c l s defs hl hsl w (hs.facts _ (by repeat (first | exact List.Mem.head _ | apply List.Mem.tail))).1)) ?_
  first | refine l_q (by decide) (p_notd rfl).q ?_ | refine l_q (by decide) (p_not rfl).q ?_
  refine l_nil ?_
  first | refine c_dec rfl (fun h12 => ?_) (fun h12 => ?_) | refine c_cond rfl (fun h12 => ?_) (fun h12 => ?_)
  · skip
    refine c_seq ?_
    refine c_reg ?_
    refine l_q (by decide) (p_assign rfl).q ?_
    refine l_nil ?_
    refine c_ret ?_
    refine c_ret1 rfl rfl (fun w hs => ?_)
    exact ⟨rfl, hs.ext⟩
  · skip
    have hf := Lay.fairB_spec (show Lay.fairB l s defs = true by simpa using h12)
    refine c_skip ?_
    refine c_seq ?_
    refine m_draw [] mixed ?_
    first | refine m_takep 0 rfl (by kernel_rfl) (by decide) (p_faddr (i := 0) 0 Try.underlying24 rfl inf_22 (by decide) rfl rfl) ?_ | refine m_takep 0 rfl (by kernel_rfl) (by decide) (p_faddro (i := 0) 0 Try.underlying24 rfl inf_22 (by decide) rfl rfl) ?_
    first | refine m_take 1 rfl (by kernel_rfl) (by decide) (by first | exact (List.Perm.refl _ : List.Perm _ ([] ++ _)) | exact (List.Perm.refl _ : List.Perm _ ([_] ++ _)) | exact (List.Perm.refl _ : List.Perm _ ([_, _] ++ _)) | exact (List.Perm.refl _ : List.Perm _ ([_, _, _] ++ _)) | exact (List.Perm.refl _ : List.Perm _ ([_, _, _, _] ++ _)) | exact (List.Perm.refl _ : List.Perm _ ([_, _, _, _, _] ++ _))) (by first | exact fun _ h => h | exact fun _ h => List.mem_cons_of_mem _ h | exact fun _ h => List.mem_cons_of_mem _ (List.mem_cons_of_mem _ h)) (r_loado Try.underlying22 rfl rfl (by repeat (first | exact List.Mem.head _ | apply List.Mem.tail)) (by rfl)).r ?_ | refine m_take 1 rfl (by kernel_rfl) (by decide) (by first | exact (List.Perm.refl _ : List.Perm _ ([] ++ _)) | exact (List.Perm.refl _ : List.Perm _ ([_] ++ _)) | exact (List.Perm.refl _ : List.Perm _ ([_, _] ++ _)) | exact (List.Perm.refl _ : List.Perm _ ([_, _, _] ++ _)) | exact (List.Perm.refl _ : List.Perm _ ([_, _, _, _] ++ _)) | exact (List.Perm.refl _ : List.Perm _ ([_, _, _, _, _] ++ _))) (by first | exact fun _ h => h | exact fun _ h => List.mem_cons_of_mem _ h | exact fun _ h => List.mem_cons_of_mem _ (List.mem_cons_of_mem _ h)) (r_load1 Try.underlying22 rfl rfl (by first | exact .fact (by repeat (first | exact List.Mem.head _ | apply List.Mem.tail)) | exact .own (by repeat (first | exact List.Mem.head _ | apply List.Mem.tail)) (by decide) (fun _ => rfl)) (by first | assumption | rfl) (by rfl)).r ?_ | refine m_take 1 rfl (by kernel_rfl) (by decide) (by first | exact (List.Perm.refl _ : List.Perm _ ([] ++ _)) | exact (List.Perm.refl _ : List.Perm _ ([_] ++ _)) | exact (List.Perm.refl _ : List.Perm _ ([_, _] ++ _)) | exact (List.Perm.refl _ : List.Perm _ ([_, _, _] ++ _)) | exact (List.Perm.refl _ : List.Perm _ ([_, _, _, _] ++ _)) | exact (List.Perm.refl _ : List.Perm _ ([_, _, _, _, _] ++ _))) (by first | exact fun _ h => h | exact fun _ h => List.mem_cons_of_mem _ h | exact fun _ h => List.mem_cons_of_mem _ (List.mem_cons_of_mem _ h)) (r_loadf Try.underlying22 rfl rfl (by first | exact .fact (by repeat (first | exact List.Mem.head _ | apply List.Mem.tail)) | exact .own (by repeat (first | exact List.Mem.head _ | apply List.Mem.tail)) (by decide) (fun _ => rfl)) (by assumption) (by rfl)).r ?_
    first | refine m_takep 2 rfl (by kernel_rfl) (by decide) (p_faddr (i := 1) 1 Try.underlying24 rfl inf_9 (by decide) rfl rfl) ?_ | refine m_takep 2 rfl (by kernel_rfl) (by decide) (p_faddro (i := 1) 1 Try.underlying24 rfl inf_9 (by decide) rfl rfl) ?_
    first | refine m_take 3 rfl (by kernel_rfl) (by decide) (by first | exact (List.Perm.refl _ : List.Perm _ ([] ++ _)) | exact (List.Perm.refl _ : List.Perm _ ([_] ++ _)) | exact (List.Perm.refl _ : List.Perm _ ([_, _] ++ _)) | exact (List.Perm.refl _ : List.Perm _ ([_, _, _] ++ _)) | exact (List.Perm.refl _ : List.Perm _ ([_, _, _, _] ++ _)) | exact (List.Perm.refl _ : List.Perm _ ([_, _, _, _, _] ++ _))) (by first | exact fun _ h => h | exact fun _ h => List.mem_cons_of_mem _ h | exact fun _ h => List.mem_cons_of_mem _ (List.mem_cons_of_mem _ h)) (r_loado Try.underlying9 rfl rfl (by repeat (first | exact List.Mem.head _ | apply List.Mem.tail)) (by rfl)).r ?_ | refine m_take 3 rfl (by kernel_rfl) (by decide) (by first | exact (List.Perm.refl _ : List.Perm _ ([] ++ _)) | exact (List.Perm.refl _ : List.Perm _ ([_] ++ _)) | exact (List.Perm.refl _ : List.Perm _ ([_, _] ++ _)) | exact (List.Perm.refl _ : List.Perm _ ([_, _, _] ++ _)) | exact (List.Perm.refl _ : List.Perm _ ([_, _, _, _] ++ _)) | exact (List.Perm.refl _ : List.Perm _ ([_, _, _, _, _] ++ _))) (by first | exact fun _ h => h | exact fun _ h => List.mem_cons_of_mem _ h | exact fun _ h => List.mem_cons_of_mem _ (List.mem_cons_of_mem _ h)) (r_load1 Try.underlying9 rfl rfl (by first | exact .fact (by repeat (first | exact List.Mem.head _ | apply List.Mem.tail)) | exact .own (by repeat (first | exact List.Mem.head _ | apply List.Mem.tail)) (by decide) (fun _ => rfl)) (by first | assumption | rfl) (by rfl)).r ?_ | refine m_take 3 rfl (by kernel_rfl) (by decide) (by first | exact (List.Perm.refl _ : List.Perm _ ([] ++ _)) | exact (List.Perm.refl _ : List.Perm _ ([_] ++ _)) | exact (List.Perm.refl _ : List.Perm _ ([_, _] ++ _)) | exact (List.Perm.refl _ : List.Perm _ ([_, _, _] ++ _)) | exact (List.Perm.refl _ : List.Perm _ ([_, _, _, _] ++ _)) | exact (List.Perm.refl _ : List.Perm _ ([_, _, _, _, _] ++ _))) (by first | exact fun _ h => h | exact fun _ h => List.mem_cons_of_mem _ h | exact fun _ h => List.mem_cons_of_mem _ (List.mem_cons_of_mem _ h)) (r_loadf Try.underlying9 rfl rfl (by first | exact .fact (by repeat (first | exact List.Mem.head _ | apply List.Mem.tail)) | exact .own (by repeat (first | exact List.Mem.head _ | apply List.Mem.tail)) (by decide) (fun _ => rfl)) (by assumption) (by rfl)).r ?_
    first | refine m_takep 4 rfl (by kernel_rfl) (by decide) (p_faddr (i := 2) 2 Try.underlying24 rfl inf_3 (by decide) rfl rfl) ?_ | refine m_takep 4 rfl (by kernel_rfl) (by decide) (p_faddro (i := 2) 2 Try.underlying24 rfl inf_3 (by decide) rfl rfl) ?_
    first | refine m_take 5 rfl (by kernel_rfl) (by decide) (by first | exact (List.Perm.refl _ : List.Perm _ ([] ++ _)) | exact (List.Perm.refl _ : List.Perm _ ([_] ++ _)) | exact (List.Perm.refl _ : List.Perm _ ([_, _] ++ _)) | exact (List.Perm.refl _ : List.Perm _ ([_, _, _] ++ _)) | exact (List.Perm.refl _ : List.Perm _ ([_, _, _, _] ++ _)) | exact (List.Perm.refl _ : List.Perm _ ([_, _, _, _, _] ++ _))) (by first | exact fun _ h => h | exact fun _ h => List.mem_cons_of_mem _ h | exact fun _ h => List.mem_cons_of_mem _ (List.mem_cons_of_mem _ h)) (r_loado Try.underlying3 rfl rfl (by repeat (first | exact List.Mem.head _ | apply List.Mem.tail)) (by rfl)).r ?_ | refine m_take 5 rfl (by kernel_rfl) (by decide) (by first | exact (List.Perm.refl _ : List.Perm _ ([] ++ _)) | exact (List.Perm.refl _ : List.Perm _ ([_] ++ _)) | exact (List.Perm.refl _ : List.Perm _ ([_, _] ++ _)) | exact (List.Perm.refl _ : List.Perm _ ([_, _, _] ++ _)) | exact (List.Perm.refl _ : List.Perm _ ([_, _, _, _] ++ _)) | exact (List.Perm.refl _ : List.Perm _ ([_, _, _, _, _] ++ _))) (by first | exact fun _ h => h | exact fun _ h => List.mem_cons_of_mem _ h | exact fun _ h => List.mem_cons_of_mem _ (List.mem_cons_of_mem _ h)) (r_load1 Try.underlying3 rfl rfl (by first | exact .fact (by repeat (first | exact List.Mem.head _ | apply List.Mem.tail)) | exact .own (by repeat (first | exact List.Mem.head _ | apply List.Mem.tail)) (by decide) (fun _ => rfl)) (by first | assumption | rfl) (by rfl)).r ?_ | refine m_take 5 rfl (by kernel_rfl) (by decide) (by first | exact (List.Perm.refl _ : List.Perm _ ([] ++ _)) | exact (List.Perm.refl _ : List.Perm _ ([_] ++ _)) | exact (List.Perm.refl _ : List.Perm _ ([_, _] ++ _)) | exact (List.Perm.refl _ : List.Perm _ ([_, _, _] ++ _)) | exact (List.Perm.refl _ : List.Perm _ ([_, _, _, _] ++ _)) | exact (List.Perm.refl _ : List.Perm _ ([_, _, _, _, _] ++ _))) (by first | exact fun _ h => h | exact fun _ h => List.mem_cons_of_mem _ h | exact fun _ h => List.mem_cons_of_mem _ (List.mem_cons_of_mem _ h)) (r_loadf Try.underlying3 rfl rfl (by first | exact .fact (by repeat (first | exact List.Mem.head _ | apply List.Mem.tail)) | exact .own (by repeat (first | exact List.Mem.head _ | apply List.Mem.tail)) (by decide) (fun _ => rfl)) (by assumption) (by rfl)).r ?_
    first | refine m_takep 7 rfl (by kernel_rfl) (by decide) (p_faddr (i := 0) 0 Try.underlying24 rfl inf_22 (by decide) rfl rfl) ?_ | refine m_takep 7 rfl (by kernel_rfl) (by decide) (p_faddro (i := 0) 0 Try.underlying24 rfl inf_22 (by decide) rfl rfl) ?_
    first | refine m_take 8 rfl (by kernel_rfl) (by decide) (by first | exact (List.Perm.refl _ : List.Perm _ ([] ++ _)) | exact (List.Perm.refl _ : List.Perm _ ([_] ++ _)) | exact (List.Perm.refl _ : List.Perm _ ([_, _] ++ _)) | exact (List.Perm.refl _ : List.Perm _ ([_, _, _] ++ _)) | exact (List.Perm.refl _ : List.Perm _ ([_, _, _, _] ++ _)) | exact (List.Perm.refl _ : List.Perm _ ([_, _, _, _, _] ++ _))) (by first | exact fun _ h => h | exact fun _ h => List.mem_cons_of_mem _ h | exact fun _ h => List.mem_cons_of_mem _ (List.mem_cons_of_mem _ h)) (r_loado Try.underlying22 rfl rfl (by repeat (first | exact List.Mem.head _ | apply List.Mem.tail)) (by rfl)).r ?_ | refine m_take 8 rfl (by kernel_rfl) (by decide) (by first | exact (List.Perm.refl _ : List.Perm _ ([] ++ _)) | exact (List.Perm.refl _ : List.Perm _ ([_] ++ _)) | exact (List.Perm.refl _ : List.Perm _ ([_, _] ++ _)) | exact (List.Perm.refl _ : List.Perm _ ([_, _, _] ++ _)) | exact (List.Perm.refl _ : List.Perm _ ([_, _, _, _] ++ _)) | exact (List.Perm.refl _ : List.Perm _ ([_, _, _, _, _] ++ _))) (by first | exact fun _ h => h | exact fun _ h => List.mem_cons_of_mem _ h | exact fun _ h => List.mem_cons_of_mem _ (List.mem_cons_of_mem _ h)) (r_load1 Try.underlying22 rfl rfl (by first | exact .fact (by repeat (first | exact List.Mem.head _ | apply List.Mem.tail)) | exact .own (by repeat (first | exact List.Mem.head _ | apply List.Mem.tail)) (by decide) (fun _ => rfl)) (by first | assumption | rfl) (by rfl)).r ?_ | refine m_take 8 rfl (by kernel_rfl) (by decide) (by first | exact (List.Perm.refl _ : List.Perm _ ([] ++ _)) | exact (List.Perm.refl _ : List.Perm _ ([_] ++ _)) | exact (List.Perm.refl _ : List.Perm _ ([_, _] ++ _)) | exact (List.Perm.refl _ : List.Perm _ ([_, _, _] ++ _)) | exact (List.Perm.refl _ : List.Perm _ ([_, _, _, _] ++ _)) | exact (List.Perm.refl _ : List.Perm _ ([_, _, _, _, _] ++ _))) (by first | exact fun _ h => h | exact fun _ h => List.mem_cons_of_mem _ h | exact fun _ h => List.mem_cons_of_mem _ (List.mem_cons_of_mem _ h)) (r_loadf Try.underlying22 rfl rfl (by first | exact .fact (by repeat (first | exact List.Mem.head _ | apply List.Mem.tail)) | exact .own (by repeat (first | exact List.Mem.head _ | apply List.Mem.tail)) (by decide) (fun _ => rfl)) (by assumption) (by rfl)).r ?_
    first | refine m_takep 9 rfl (by kernel_rfl) (by decide) (p_faddr (i := 1) 1 Try.underlying24 rfl inf_9 (by decide) rfl rfl) ?_ | refine m_takep 9 rfl (by kernel_rfl) (by decide) (p_faddro (i := 1) 1 Try.underlying24 rfl inf_9 (by decide) rfl rfl) ?_
    first | refine m_take 10 rfl (by kernel_rfl) (by decide) (by first | exact (List.Perm.refl _ : List.Perm _ ([] ++ _)) | exact (List.Perm.refl _ : List.Perm _ ([_] ++ _)) | exact (List.Perm.refl _ : List.Perm _ ([_, _] ++ _)) | exact (List.Perm.refl _ : List.Perm _ ([_, _, _] ++ _)) | exact (List.Perm.refl _ : List.Perm _ ([_, _, _, _] ++ _)) | exact (List.Perm.refl _ : List.Perm _ ([_, _, _, _, _] ++ _))) (by first | exact fun _ h => h | exact fun _ h => List.mem_cons_of_mem _ h | exact fun _ h => List.mem_cons_of_mem _ (List.mem_cons_of_mem _ h)) (r_loado Try.underlying9 rfl rfl (by repeat (first | exact List.Mem.head _ | apply List.Mem.tail)) (by rfl)).r ?_ | refine m_take 10 rfl (by kernel_rfl) (by decide) (by first | exact (List.Perm.refl _ : List.Perm _ ([] ++ _)) | exact (List.Perm.refl _ : List.Perm _ ([_] ++ _)) | exact (List.Perm.refl _ : List.Perm _ ([_, _] ++ _)) | exact (List.Perm.refl _ : List.Perm _ ([_, _, _] ++ _)) | exact (List.Perm.refl _ : List.Perm _ ([_, _, _, _] ++ _)) | exact (List.Perm.refl _ : List.Perm _ ([_, _, _, _, _] ++ _))) (by first | exact fun _ h => h | exact fun _ h => List.mem_cons_of_mem _ h | exact fun _ h => List.mem_cons_of_mem _ (List.mem_cons_of_mem _ h)) (r_load1 Try.underlying9 rfl rfl (by first | exact .fact (by repeat (first | exact List.Mem.head _ | apply List.Mem.tail)) | exact .own (by repeat (first | exact List.Mem.head _ | apply List.Mem.tail)) (by decide) (fun _ => rfl)) (by first | assumption | rfl) (by rfl)).r ?_ | refine m_take 10 rfl (by kernel_rfl) (by decide) (by first | exact (List.Perm.refl _ : List.Perm _ ([] ++ _)) | exact (List.Perm.refl _ : List.Perm _ ([_] ++ _)) | exact (List.Perm.refl _ : List.Perm _ ([_, _] ++ _)) | exact (List.Perm.refl _ : List.Perm _ ([_, _, _] ++ _)) | exact (List.Perm.refl _ : List.Perm _ ([_, _, _, _] ++ _)) | exact (List.Perm.refl _ : List.Perm _ ([_, _, _, _, _] ++ _))) (by first | exact fun _ h => h | exact fun _ h => List.mem_cons_of_mem _ h | exact fun _ h => List.mem_cons_of_mem _ (List.mem_cons_of_mem _ h)) (r_loadf Try.underlying9 rfl rfl (by first | exact .fact (by repeat (first | exact List.Mem.head _ | apply List.Mem.tail)) | exact .own (by repeat (first | exact List.Mem.head _ | apply List.Mem.tail)) (by decide) (fun _ => rfl)) (by assumption) (by rfl)).r ?_
    first | refine m_takep 11 rfl (by kernel_rfl) (by decide) (p_faddr (i := 2) 2 Try.underlying24 rfl inf_3 (by decide) rfl rfl) ?_ | refine m_takep 11 rfl (by kernel_rfl) (by decide) (p_faddro (i := 2) 2 Try.underlying24 rfl inf_3 (by decide) rfl rfl) ?_
    first | refine m_take 12 rfl (by kernel_rfl) (by decide) (by first | exact (List.Perm.refl _ : List.Perm _ ([] ++ _)) | exact (List.Perm.refl _ : List.Perm _ ([_] ++ _)) | exact (List.Perm.refl _ : List.Perm _ ([_, _] ++ _)) | exact (List.Perm.refl _ : List.Perm _ ([_, _, _] ++ _)) | exact (List.Perm.refl _ : List.Perm _ ([_, _, _, _] ++ _)) | exact (List.Perm.refl _ : List.Perm _ ([_, _, _, _, _] ++ _))) (by first | exact fun _ h => h | exact fun _ h => List.mem_cons_of_mem _ h | exact fun _ h => List.mem_cons_of_mem _ (List.mem_cons_of_mem _ h)) (r_loado Try.underlying3 rfl rfl (by repeat (first | exact List.Mem.head _ | apply List.Mem.tail)) (by rfl)).r ?_ | refine m_take 12 rfl (by kernel_rfl) (by decide) (by first | exact (List.Perm.refl _ : List.Perm _ ([] ++ _)) | exact (List.Perm.refl _ : List.Perm _ ([_] ++ _)) | exact (List.Perm.refl _ : List.Perm _ ([_, _] ++ _)) | exact (List.Perm.refl _ : List.Perm _ ([_, _, _] ++ _)) | exact (List.Perm.refl _ : List.Perm _ ([_, _, _, _] ++ _)) | exact (List.Perm.refl _ : List.Perm _ ([_, _, _, _, _] ++ _))) (by first | exact fun _ h => h | exact fun _ h => List.mem_cons_of_mem _ h | exact fun _ h => List.mem_cons_of_mem _ (List.mem_cons_of_mem _ h)) (r_load1 Try.underlying3 rfl rfl (by first | exact .fact (by repeat (first | exact List.Mem.head _ | apply List.Mem.tail)) | exact .own (by repeat (first | exact List.Mem.head _ | apply List.Mem.tail)) (by decide) (fun _ => rfl)) (by first | assumption | rfl) (by rfl)).r ?_ | refine m_take 12 rfl (by kernel_rfl) (by decide) (by first | exact (List.Perm.refl _ : List.Perm _ ([] ++ _)) | exact (List.Perm.refl _ : List.Perm _ ([_] ++ _)) | exact (List.Perm.refl _ : List.Perm _ ([_, _] ++ _)) | exact (List.Perm.refl _ : List.Perm _ ([_, _, _] ++ _)) | exact (List.Perm.refl _ : List.Perm _ ([_, _, _, _] ++ _)) | exact (List.Perm.refl _ : List.Perm _ ([_, _, _, _, _] ++ _))) (by first | exact fun _ h => h | exact fun _ h => List.mem_cons_of_mem _ h | exact fun _ h => List.mem_cons_of_mem _ (List.mem_cons_of_mem _ h)) (r_loadf Try.underlying3 rfl rfl (by first | exact .fact (by repeat (first | exact List.Mem.head _ | apply List.Mem.tail)) | exact .own (by repeat (first | exact List.Mem.head _ | apply List.Mem.tail)) (by decide) (fun _ => rfl)) (by assumption) (by rfl)).r ?_
    refine m_run 6 rfl (by kernel_rfl) ?_
    refine l_call (X := Capd (Lay.app l s defs)) (fun x => .slice x.1.1 (Lay.app l s defs).length x.1.2) (fun x => Sl 4 tokF x.1.1 (Lay.app l s defs)) (by decide) call_13 rfl (fun w hs => apply_ok A c l s defs hf.len (by have := hf.slen; omega) hf.d0 hf.d1 hf.at_ w (hs.facts _ (by repeat (first | exact List.Mem.head _ | apply List.Mem.tail))).1) (fun x19 => ?_)
    refine l_nil ?_
    refine m_next _ (by first | exact (List.Perm.refl _ : List.Perm _ ([] ++ _)) | exact (List.Perm.refl _ : List.Perm _ ([_] ++ _)) | exact (List.Perm.refl _ : List.Perm _ ([_, _] ++ _)) | exact (List.Perm.refl _ : List.Perm _ ([_, _, _] ++ _)) | exact (List.Perm.refl _ : List.Perm _ ([_, _, _, _] ++ _)) | exact (List.Perm.refl _ : List.Perm _ ([_, _, _, _, _] ++ _))) (by first | exact fun _ h => h | exact fun _ h => List.mem_cons_of_mem _ h | exact fun _ h => List.mem_cons_of_mem _ (List.mem_cons_of_mem _ h)) ?_
    refine m_run 13 rfl (by kernel_rfl) ?_
    refine l_call (X := Option Addr × Nat) (fun x => .slice x.1 (Lay.app l s defs).length x.2) (fun x => Sl 4 tokF x.1 (Lay.app l s defs)) (by decide) call_14 rfl (fun w hs => apply2_ok A c l s defs hf.len (by have := hf.slen; omega) hf.d0 hf.d1 hf.at_ w (hs.facts _ (by repeat (first | exact List.Mem.head _ | apply List.Mem.tail))).1) (fun x26 => ?_)
    refine l_nil ?_
    refine m_next _ (by first | exact (List.Perm.refl _ : List.Perm _ ([] ++ _)) | exact (List.Perm.refl _ : List.Perm _ ([_] ++ _)) | exact (List.Perm.refl _ : List.Perm _ ([_, _] ++ _)) | exact (List.Perm.refl _ : List.Perm _ ([_, _, _] ++ _)) | exact (List.Perm.refl _ : List.Perm _ ([_, _, _, _] ++ _)) | exact (List.Perm.refl _ : List.Perm _ ([_, _, _, _, _] ++ _))) (by first | exact fun _ h => h | exact fun _ h => List.mem_cons_of_mem _ h | exact fun _ h => List.mem_cons_of_mem _ (List.mem_cons_of_mem _ h)) ?_
    refine m_run 14 rfl (by kernel_rfl) ?_
    refine l_q (by decide) (q_call call_12 rfl (fun w hs => same_true x19.1.1 x26.1 x19.1.2 x26.2 (Lay.app l s defs) (Lay.app l s defs) rfl (app_short hf) w (hs.facts _ (by repeat (first | exact List.Mem.head _ | apply List.Mem.tail))).1 (hs.facts _ (by repeat (first | exact List.Mem.head _ | apply List.Mem.tail))).1)) ?_
    refine l_nil ?_
    refine m_next _ (by first | exact (List.Perm.refl _ : List.Perm _ ([] ++ _)) | exact (List.Perm.refl _ : List.Perm _ ([_] ++ _)) | exact (List.Perm.refl _ : List.Perm _ ([_, _] ++ _)) | exact (List.Perm.refl _ : List.Perm _ ([_, _, _] ++ _)) | exact (List.Perm.refl _ : List.Perm _ ([_, _, _, _] ++ _)) | exact (List.Perm.refl _ : List.Perm _ ([_, _, _, _, _] ++ _))) (by first | exact fun _ h => h | exact fun _ h => List.mem_cons_of_mem _ h | exact fun _ h => List.mem_cons_of_mem _ (List.mem_cons_of_mem _ h)) ?_
    refine m_takep 15 rfl (by kernel_rfl) (by decide) (p_assign rfl) ?_
    refine m_done (by kernel_rfl) ?_
    refine c_ret ?_
    refine c_ret1 rfl rfl (fun w hs => ?_)
    exact ⟨rfl, hs.ext⟩

theorem balanced_law (A : Option Addr) (c : Nat) (l : List Lay.T) (s : List UInt8) (defs : Int) (hl : l.length ≤ 140737488351232) (hsl : s.length ≤ 140737488351232) (hk : ∀ t, t ∈ l → -9223372036854775808 ≤ t.kind ∧ t.kind ≤ 9223372036854775807) (w : World) (hq : Sl 4 tokF A l w) :
    Calls Try.prog 4 #[.agg #[.slice A l.length c, str s, .int .i64 defs]] w (Ret fun v w' => v = .bool true ∧ Ext [] w w') := by
  refine calls_fx (l := [.agg #[.slice A l.length c, str s, .int .i64 defs]]) Try.func4 rfl Try.ntmps4 (Nat.le_of_ble_eq_true rfl) ((St.start w).old hq (dep_sl (by decide) hq)) ?_
  refine c_seq ?_
  refine c_reg ?_
  refine l_box (by decide) rfl _ rfl (fun b1 => ?_)
  refine l_q (by decide) (p_assign rfl).q ?_
  refine l_nil ?_
  refine c_seq ?_
  refine c_seq ?_
  refine c_reg ?_
  refine l_q (by decide) (q_call call_10 rfl (fun w hs => awake_ok w)) ?_
  refine l_q (by decide) (p_not rfl).q ?_
  refine l_nil ?_
  refine c_false rfl ?_
  refine c_skip ?_
  refine c_seq ?_
  refine c_seq ?_
  refine c_meetn (S := Unit) (fun zs => True) (fun zs => [(1, .pointer (some ⟨b1, 0, none⟩)), (18, .bool (decide (¬ Lay.fairB l s defs = true ∨ ¬ Lay.plainB defs l = true)))]) (fun zs => [iCells b1 24 [.slice A l.length c, str s, .int .i64 defs]]) (fun zs => [Sl 4 tokF A l]) ?_ ?_
  · skip
    refine c_reg ?_
    first | refine l_q (by decide) (p_faddr (i := 0) 0 Try.underlying24 rfl inf_22 (by decide) rfl rfl).q ?_ | refine l_q (by decide) (p_faddro (i := 0) 0 Try.underlying24 rfl inf_22 (by decide) rfl rfl).q ?_
    first | refine l_q (by decide) (r_loado Try.underlying22 rfl rfl (by repeat (first | exact List.Mem.head _ | apply List.Mem.tail)) (by rfl)).q ?_ | refine l_q (by decide) (r_load1 Try.underlying22 rfl rfl (by first | exact .fact (by repeat (first | exact List.Mem.head _ | apply List.Mem.tail)) | exact .own (by repeat (first | exact List.Mem.head _ | apply List.Mem.tail)) (by decide) (fun _ => rfl)) (by first | assumption | rfl) (by rfl)).q ?_ | refine l_q (by decide) (r_loadf Try.underlying22 rfl rfl (by first | exact .fact (by repeat (first | exact List.Mem.head _ | apply List.Mem.tail)) | exact .own (by repeat (first | exact List.Mem.head _ | apply List.Mem.tail)) (by decide) (fun _ => rfl)) (by assumption) (by rfl)).q ?_
    first | refine l_q (by decide) (p_faddr (i := 1) 1 Try.underlying24 rfl inf_9 (by decide) rfl rfl).q ?_ | refine l_q (by decide) (p_faddro (i := 1) 1 Try.underlying24 rfl inf_9 (by decide) rfl rfl).q ?_
    first | refine l_q (by decide) (r_loado Try.underlying9 rfl rfl (by repeat (first | exact List.Mem.head _ | apply List.Mem.tail)) (by rfl)).q ?_ | refine l_q (by decide) (r_load1 Try.underlying9 rfl rfl (by first | exact .fact (by repeat (first | exact List.Mem.head _ | apply List.Mem.tail)) | exact .own (by repeat (first | exact List.Mem.head _ | apply List.Mem.tail)) (by decide) (fun _ => rfl)) (by first | assumption | rfl) (by rfl)).q ?_ | refine l_q (by decide) (r_loadf Try.underlying9 rfl rfl (by first | exact .fact (by repeat (first | exact List.Mem.head _ | apply List.Mem.tail)) | exact .own (by repeat (first | exact List.Mem.head _ | apply List.Mem.tail)) (by decide) (fun _ => rfl)) (by assumption) (by rfl)).q ?_
    first | refine l_q (by decide) (p_faddr (i := 2) 2 Try.underlying24 rfl inf_3 (by decide) rfl rfl).q ?_ | refine l_q (by decide) (p_faddro (i := 2) 2 Try.underlying24 rfl inf_3 (by decide) rfl rfl).q ?_
    first | refine l_q (by decide) (r_loado Try.underlying3 rfl rfl (by repeat (first | exact List.Mem.head _ | apply List.Mem.tail)) (by rfl)).q ?_ | refine l_q (by decide) (r_load1 Try.underlying3 rfl rfl (by first | exact .fact (by repeat (first | exact List.Mem.head _ | apply List.Mem.tail)) | exact .own (by repeat (first | exact List.Mem.head _ | apply List.Mem.tail)) (by decide) (fun _ => rfl)) (by first | assumption | rfl) (by rfl)).q ?_ | refine l_q (by decide) (r_loadf Try.underlying3 rfl rfl (by first | exact .fact (by repeat (first | exact List.Mem.head _ | apply List.Mem.tail)) | exact .own (by repeat (first | exact List.Mem.head _ | apply List.Mem.tail)) (by decide) (fun _ => rfl)) (by assumption) (by rfl)).q ?_
    refine l_q (by decide) (q_call call_11 rfl (fun w hs => fair_ok A c l s defs hl hsl w (hs.facts _ (by repeat (first | exact List.Mem.head _ | apply List.Mem.tail))).1)) ?_
    first | refine l_q (by decide) (p_notd rfl).q ?_ | refine l_q (by decide) (p_not rfl).q ?_
    refine l_q (by decide) (p_move rfl).q ?_
    first | refine l_splitd (t := 14) rfl (fun h14 => ?_) (fun h14 => ?_) | refine l_splitb (t := 14) rfl (fun h14 => ?_) (fun h14 => ?_)
    · skip
      refine l_off (j := 8) rfl rfl (by first | (simp; done) | (simp [undef]; done)) (by decide) ?_
      refine l_off (j := 8) rfl rfl (by first | (simp; done) | (simp [undef]; done)) (by decide) ?_
      refine l_off (j := 8) rfl rfl (by first | (simp; done) | (simp [undef]; done)) (by decide) ?_
      refine l_q (by decide) (p_pick rfl rfl).q ?_
      refine l_nil ?_
      refine c_join (()) ?inv ?sub ?perm ?facts
      case sub => exact ⟨rfl, (boolp (.inl (by simpa using h14))), trivial⟩
      case perm =>
        exact .refl _
      case facts => exact fun _ h => h
      case inv =>
        trivial
    · skip
      have hf0 := Lay.fairB_spec (show Lay.fairB l s defs = true by simpa using h14)
      first | refine l_g (j := 8) rfl rfl (by decide) (r_loada Try.underlying24 rfl inf_24 rfl (by first | exact .fact (by repeat (first | exact List.Mem.head _ | apply List.Mem.tail)) | exact .own (by repeat (first | exact List.Mem.head _ | apply List.Mem.tail)) (by decide) (fun _ => rfl)) (by assumption)).q ?_ | refine l_g (j := 8) rfl rfl (by decide) (r_loadow Try.underlying24 rfl inf_24 rfl (by repeat (first | exact List.Mem.head _ | apply List.Mem.tail)) (by rfl)).q ?_ | refine l_g (j := 8) rfl rfl (by decide) (r_loadoa Try.underlying24 rfl inf_24 rfl (by repeat (first | exact List.Mem.head _ | apply List.Mem.tail)) (by rfl) (fun j u h => h)).q ?_
      refine l_g (j := 8) rfl rfl (by decide) (q_call call_15 rfl (fun w hs => plain_ok A c l s defs (by have := hf0.len; omega) w (hs.facts _ (by repeat (first | exact List.Mem.head _ | apply List.Mem.tail))).1)) ?_
      first | refine l_g (j := 8) rfl rfl (by decide) (p_notd rfl).q ?_ | refine l_g (j := 8) rfl rfl (by decide) (p_not rfl).q ?_
      refine l_q (by decide) (p_pick rfl rfl).q ?_
      refine l_nil ?_
      refine c_join (()) ?inv ?sub ?perm ?facts
      case sub => exact ⟨rfl, (by rw [show Lay.fairB l s defs = true by simpa using h14]; cases hb : Lay.plainB defs l <;> rfl), trivial⟩
      case perm =>
        exact .refl _
      case facts => exact fun _ h => h
      case inv =>
        trivial
  rintro uu hmeet
  show Cont _ _ _ _ [(1, .pointer (some ⟨b1, 0, none⟩)), (18, .bool (decide (¬ Lay.fairB l s defs = true ∨ ¬ Lay.plainB defs l = true)))] ([iCells b1 24 [.slice A l.length c, str s, .int .i64 defs]]) [Sl 4 tokF A l]
  first | refine c_dec rfl (fun h18 => ?_) (fun h18 => ?_) | refine c_cond rfl (fun h18 => ?_) (fun h18 => ?_)
  · skip
    refine c_seq ?_
    refine c_reg ?_
    refine l_q (by decide) (p_assign rfl).q ?_
    refine l_nil ?_
    refine c_ret ?_
    refine c_ret1 rfl rfl (fun w hs => ?_)
    exact ⟨rfl, hs.ext⟩
  · skip
    have hf : Lay.Fair l s defs := Lay.fairB_spec (Classical.byContradiction fun h => h18 (.inl h))
    have hpl : Lay.Plain defs l := Lay.plainB_spec.1 (Classical.byContradiction fun h => h18 (.inr h))
    refine c_skip ?_
    refine c_seq ?_
    refine c_reg ?_
    first | refine l_q (by decide) (p_faddr (i := 0) 0 Try.underlying24 rfl inf_22 (by decide) rfl rfl).q ?_ | refine l_q (by decide) (p_faddro (i := 0) 0 Try.underlying24 rfl inf_22 (by decide) rfl rfl).q ?_
    first | refine l_q (by decide) (r_loado Try.underlying22 rfl rfl (by repeat (first | exact List.Mem.head _ | apply List.Mem.tail)) (by rfl)).q ?_ | refine l_q (by decide) (r_load1 Try.underlying22 rfl rfl (by first | exact .fact (by repeat (first | exact List.Mem.head _ | apply List.Mem.tail)) | exact .own (by repeat (first | exact List.Mem.head _ | apply List.Mem.tail)) (by decide) (fun _ => rfl)) (by first | assumption | rfl) (by rfl)).q ?_ | refine l_q (by decide) (r_loadf Try.underlying22 rfl rfl (by first | exact .fact (by repeat (first | exact List.Mem.head _ | apply List.Mem.tail)) | exact .own (by repeat (first | exact List.Mem.head _ | apply List.Mem.tail)) (by decide) (fun _ => rfl)) (by assumption) (by rfl)).q ?_
    first | refine l_q (by decide) (p_faddr (i := 1) 1 Try.underlying24 rfl inf_9 (by decide) rfl rfl).q ?_ | refine l_q (by decide) (p_faddro (i := 1) 1 Try.underlying24 rfl inf_9 (by decide) rfl rfl).q ?_
    first | refine l_q (by decide) (r_loado Try.underlying9 rfl rfl (by repeat (first | exact List.Mem.head _ | apply List.Mem.tail)) (by rfl)).q ?_ | refine l_q (by decide) (r_load1 Try.underlying9 rfl rfl (by first | exact .fact (by repeat (first | exact List.Mem.head _ | apply List.Mem.tail)) | exact .own (by repeat (first | exact List.Mem.head _ | apply List.Mem.tail)) (by decide) (fun _ => rfl)) (by first | assumption | rfl) (by rfl)).q ?_ | refine l_q (by decide) (r_loadf Try.underlying9 rfl rfl (by first | exact .fact (by repeat (first | exact List.Mem.head _ | apply List.Mem.tail)) | exact .own (by repeat (first | exact List.Mem.head _ | apply List.Mem.tail)) (by decide) (fun _ => rfl)) (by assumption) (by rfl)).q ?_
    first | refine l_q (by decide) (p_faddr (i := 2) 2 Try.underlying24 rfl inf_3 (by decide) rfl rfl).q ?_ | refine l_q (by decide) (p_faddro (i := 2) 2 Try.underlying24 rfl inf_3 (by decide) rfl rfl).q ?_
    first | refine l_q (by decide) (r_loado Try.underlying3 rfl rfl (by repeat (first | exact List.Mem.head _ | apply List.Mem.tail)) (by rfl)).q ?_ | refine l_q (by decide) (r_load1 Try.underlying3 rfl rfl (by first | exact .fact (by repeat (first | exact List.Mem.head _ | apply List.Mem.tail)) | exact .own (by repeat (first | exact List.Mem.head _ | apply List.Mem.tail)) (by decide) (fun _ => rfl)) (by first | assumption | rfl) (by rfl)).q ?_ | refine l_q (by decide) (r_loadf Try.underlying3 rfl rfl (by first | exact .fact (by repeat (first | exact List.Mem.head _ | apply List.Mem.tail)) | exact .own (by repeat (first | exact List.Mem.head _ | apply List.Mem.tail)) (by decide) (fun _ => rfl)) (by assumption) (by rfl)).q ?_
    refine l_call (X := Capd (Lay.app l s defs)) (fun x => .slice x.1.1 (Lay.app l s defs).length x.1.2) (fun x => Sl 4 tokF x.1.1 (Lay.app l s defs)) (by decide) call_13 rfl (fun w hs => apply_ok A c l s defs hf.len (by have := hf.slen; omega) hf.d0 hf.d1 hf.at_ w (hs.facts _ (by repeat (first | exact List.Mem.head _ | apply List.Mem.tail))).1) (fun x25 => ?_)
    refine l_q (by decide) (p_assign rfl).q ?_
    refine l_nil ?_
    refine c_seq ?_
    refine c_reg ?_
    refine l_q (by decide) (p_move rfl).q ?_
    first | refine l_q (by decide) (p_faddr (i := 2) 2 Try.underlying24 rfl inf_3 (by decide) rfl rfl).q ?_ | refine l_q (by decide) (p_faddro (i := 2) 2 Try.underlying24 rfl inf_3 (by decide) rfl rfl).q ?_
    first | refine l_q (by decide) (r_loado Try.underlying3 rfl rfl (by repeat (first | exact List.Mem.head _ | apply List.Mem.tail)) (by rfl)).q ?_ | refine l_q (by decide) (r_load1 Try.underlying3 rfl rfl (by first | exact .fact (by repeat (first | exact List.Mem.head _ | apply List.Mem.tail)) | exact .own (by repeat (first | exact List.Mem.head _ | apply List.Mem.tail)) (by decide) (fun _ => rfl)) (by first | assumption | rfl) (by rfl)).q ?_ | refine l_q (by decide) (r_loadf Try.underlying3 rfl rfl (by first | exact .fact (by repeat (first | exact List.Mem.head _ | apply List.Mem.tail)) | exact .own (by repeat (first | exact List.Mem.head _ | apply List.Mem.tail)) (by decide) (fun _ => rfl)) (by assumption) (by rfl)).q ?_
    refine l_q (by decide) (q_call call_16 rfl (fun w hs => balref_as x25.1.1 x25.1.2 (Lay.app l s defs) defs true (Lay.bal_app l s defs hpl) (by have := hf.d0; omega) hf.d1 (app_short hf) (app_kinds hf hk) w (hs.facts _ (by repeat (first | exact List.Mem.head _ | apply List.Mem.tail))).1)) ?_
    refine l_q (by decide) (p_move rfl).q ?_
    refine l_g (j := 4) rfl rfl (by decide) (p_move rfl).q ?_
    first | refine l_g (j := 4) rfl rfl (by decide) (p_faddr (i := 2) 2 Try.underlying24 rfl inf_3 (by decide) rfl rfl).q ?_ | refine l_g (j := 4) rfl rfl (by decide) (p_faddro (i := 2) 2 Try.underlying24 rfl inf_3 (by decide) rfl rfl).q ?_
    first | refine l_g (j := 4) rfl rfl (by decide) (r_loado Try.underlying3 rfl rfl (by repeat (first | exact List.Mem.head _ | apply List.Mem.tail)) (by rfl)).q ?_ | refine l_g (j := 4) rfl rfl (by decide) (r_load1 Try.underlying3 rfl rfl (by first | exact .fact (by repeat (first | exact List.Mem.head _ | apply List.Mem.tail)) | exact .own (by repeat (first | exact List.Mem.head _ | apply List.Mem.tail)) (by decide) (fun _ => rfl)) (by first | assumption | rfl) (by rfl)).q ?_ | refine l_g (j := 4) rfl rfl (by decide) (r_loadf Try.underlying3 rfl rfl (by first | exact .fact (by repeat (first | exact List.Mem.head _ | apply List.Mem.tail)) | exact .own (by repeat (first | exact List.Mem.head _ | apply List.Mem.tail)) (by decide) (fun _ => rfl)) (by assumption) (by rfl)).q ?_
    refine l_g (j := 4) rfl rfl (by decide) (q_call call_17 rfl (fun w hs => bal_as x25.1.1 x25.1.2 (Lay.app l s defs) defs true (Lay.bal_app l s defs hpl) (by have := hf.d0; omega) hf.d1 (app_short hf) (app_kinds hf hk) w (hs.facts _ (by repeat (first | exact List.Mem.head _ | apply List.Mem.tail))).1)) ?_
    refine l_q (by decide) (p_pick rfl rfl).q ?_
    refine l_q (by decide) (p_assign rfl).q ?_
    refine l_nil ?_
    refine c_ret ?_
    refine c_ret1 rfl rfl (fun w hs => ?_)
    exact ⟨rfl, hs.ext⟩

theorem strip_law (A : Option Addr) (c : Nat) (l : List Lay.T) (s : List UInt8) (defs : Int) (hl : l.length ≤ 140737488351232) (hsl : s.length ≤ 140737488351232) (hk : ∀ t, t ∈ l → -9223372036854775808 ≤ t.kind ∧ t.kind ≤ 9223372036854775807) (w : World) (hq : Sl 4 tokF A l w) :
    Calls Try.prog 5 #[.agg #[.slice A l.length c, str s, .int .i64 defs]] w (Ret fun v w' => v = .bool true ∧ Ext [] w w') := by
  refine calls_fx (l := [.agg #[.slice A l.length c, str s, .int .i64 defs]]) Try.func5 rfl Try.ntmps5 (Nat.le_of_ble_eq_true rfl) ((St.start w).old hq (dep_sl (by decide) hq)) ?_
  refine c_seq ?_
  refine c_reg ?_
  refine l_box (by decide) rfl _ rfl (fun b1 => ?_)
  refine l_q (by decide) (p_assign rfl).q ?_
  refine l_nil ?_
  refine c_seq ?_
  refine c_seq ?_
  refine c_reg ?_
  refine l_q (by decide) (q_call call_10 rfl (fun w hs => awake_ok w)) ?_
  refine l_q (by decide) (p_not rfl).q ?_
  refine l_nil ?_
  refine c_false rfl ?_
  refine c_skip ?_
  refine c_seq ?_
  refine c_seq ?_
  refine c_meetn (S := Unit) (fun zs => True) (fun zs => [(1, .pointer (some ⟨b1, 0, none⟩)), (17, .bool (decide (¬ Lay.fairB l s defs = true ∨ ¬ Lay.plainB defs l = true)))]) (fun zs => [iCells b1 24 [.slice A l.length c, str s, .int .i64 defs]]) (fun zs => [Sl 4 tokF A l]) ?_ ?_
  · skip
    refine c_reg ?_
    first | refine l_q (by decide) (p_faddr (i := 0) 0 Try.underlying24 rfl inf_22 (by decide) rfl rfl).q ?_ | refine l_q (by decide) (p_faddro (i := 0) 0 Try.underlying24 rfl inf_22 (by decide) rfl rfl).q ?_
    first | refine l_q (by decide) (r_loado Try.underlying22 rfl rfl (by repeat (first | exact List.Mem.head _ | apply List.Mem.tail)) (by rfl)).q ?_ | refine l_q (by decide) (r_load1 Try.underlying22 rfl rfl (by first | exact .fact (by repeat (first | exact List.Mem.head _ | apply List.Mem.tail)) | exact .own (by repeat (first | exact List.Mem.head _ | apply List.Mem.tail)) (by decide) (fun _ => rfl)) (by first | assumption | rfl) (by rfl)).q ?_ | refine l_q (by decide) (r_loadf Try.underlying22 rfl rfl (by first | exact .fact (by repeat (first | exact List.Mem.head _ | apply List.Mem.tail)) | exact .own (by repeat (first | exact List.Mem.head _ | apply List.Mem.tail)) (by decide) (fun _ => rfl)) (by assumption) (by rfl)).q ?_
    first | refine l_q (by decide) (p_faddr (i := 1) 1 Try.underlying24 rfl inf_9 (by decide) rfl rfl).q ?_ | refine l_q (by decide) (p_faddro (i := 1) 1 Try.underlying24 rfl inf_9 (by decide) rfl rfl).q ?_
    first | refine l_q (by decide) (r_loado Try.underlying9 rfl rfl (by repeat (first | exact List.Mem.head _ | apply List.Mem.tail)) (by rfl)).q ?_ | refine l_q (by decide) (r_load1 Try.underlying9 rfl rfl (by first | exact .fact (by repeat (first | exact List.Mem.head _ | apply List.Mem.tail)) | exact .own (by repeat (first | exact List.Mem.head _ | apply List.Mem.tail)) (by decide) (fun _ => rfl)) (by first | assumption | rfl) (by rfl)).q ?_ | refine l_q (by decide) (r_loadf Try.underlying9 rfl rfl (by first | exact .fact (by repeat (first | exact List.Mem.head _ | apply List.Mem.tail)) | exact .own (by repeat (first | exact List.Mem.head _ | apply List.Mem.tail)) (by decide) (fun _ => rfl)) (by assumption) (by rfl)).q ?_
    first | refine l_q (by decide) (p_faddr (i := 2) 2 Try.underlying24 rfl inf_3 (by decide) rfl rfl).q ?_ | refine l_q (by decide) (p_faddro (i := 2) 2 Try.underlying24 rfl inf_3 (by decide) rfl rfl).q ?_
    first | refine l_q (by decide) (r_loado Try.underlying3 rfl rfl (by repeat (first | exact List.Mem.head _ | apply List.Mem.tail)) (by rfl)).q ?_ | refine l_q (by decide) (r_load1 Try.underlying3 rfl rfl (by first | exact .fact (by repeat (first | exact List.Mem.head _ | apply List.Mem.tail)) | exact .own (by repeat (first | exact List.Mem.head _ | apply List.Mem.tail)) (by decide) (fun _ => rfl)) (by first | assumption | rfl) (by rfl)).q ?_ | refine l_q (by decide) (r_loadf Try.underlying3 rfl rfl (by first | exact .fact (by repeat (first | exact List.Mem.head _ | apply List.Mem.tail)) | exact .own (by repeat (first | exact List.Mem.head _ | apply List.Mem.tail)) (by decide) (fun _ => rfl)) (by assumption) (by rfl)).q ?_
    refine l_q (by decide) (q_call call_11 rfl (fun w hs => fair_ok A c l s defs hl hsl w (hs.facts _ (by repeat (first | exact List.Mem.head _ | apply List.Mem.tail))).1)) ?_
    first | refine l_q (by decide) (p_notd rfl).q ?_ | refine l_q (by decide) (p_not rfl).q ?_
    refine l_q (by decide) (p_move rfl).q ?_
    first | refine l_splitd (t := 13) rfl (fun h13 => ?_) (fun h13 => ?_) | refine l_splitb (t := 13) rfl (fun h13 => ?_) (fun h13 => ?_)
    · skip
      refine l_off (j := 8) rfl rfl (by first | (simp; done) | (simp [undef]; done)) (by decide) ?_
      refine l_off (j := 8) rfl rfl (by first | (simp; done) | (simp [undef]; done)) (by decide) ?_
      refine l_off (j := 8) rfl rfl (by first | (simp; done) | (simp [undef]; done)) (by decide) ?_
      refine l_q (by decide) (p_pick rfl rfl).q ?_
      refine l_nil ?_
      refine c_join (()) ?inv ?sub ?perm ?facts
      case sub => exact ⟨rfl, (boolp (.inl (by simpa using h13))), trivial⟩
      case perm =>
        exact .refl _
      case facts => exact fun _ h => h
      case inv =>
        trivial
    · skip
      have hf0 := Lay.fairB_spec (show Lay.fairB l s defs = true by simpa using h13)
      first | refine l_g (j := 8) rfl rfl (by decide) (r_loada Try.underlying24 rfl inf_24 rfl (by first | exact .fact (by repeat (first | exact List.Mem.head _ | apply List.Mem.tail)) | exact .own (by repeat (first | exact List.Mem.head _ | apply List.Mem.tail)) (by decide) (fun _ => rfl)) (by assumption)).q ?_ | refine l_g (j := 8) rfl rfl (by decide) (r_loadow Try.underlying24 rfl inf_24 rfl (by repeat (first | exact List.Mem.head _ | apply List.Mem.tail)) (by rfl)).q ?_ | refine l_g (j := 8) rfl rfl (by decide) (r_loadoa Try.underlying24 rfl inf_24 rfl (by repeat (first | exact List.Mem.head _ | apply List.Mem.tail)) (by rfl) (fun j u h => h)).q ?_
      refine l_g (j := 8) rfl rfl (by decide) (q_call call_15 rfl (fun w hs => plain_ok A c l s defs (by have := hf0.len; omega) w (hs.facts _ (by repeat (first | exact List.Mem.head _ | apply List.Mem.tail))).1)) ?_
      first | refine l_g (j := 8) rfl rfl (by decide) (p_notd rfl).q ?_ | refine l_g (j := 8) rfl rfl (by decide) (p_not rfl).q ?_
      refine l_q (by decide) (p_pick rfl rfl).q ?_
      refine l_nil ?_
      refine c_join (()) ?inv ?sub ?perm ?facts
      case sub => exact ⟨rfl, (by rw [show Lay.fairB l s defs = true by simpa using h13]; cases hb : Lay.plainB defs l <;> rfl), trivial⟩
      case perm =>
        exact .refl _
      case facts => exact fun _ h => h
      case inv =>
        trivial
  rintro uu hmeet
  show Cont _ _ _ _ [(1, .pointer (some ⟨b1, 0, none⟩)), (17, .bool (decide (¬ Lay.fairB l s defs = true ∨ ¬ Lay.plainB defs l = true)))] ([iCells b1 24 [.slice A l.length c, str s, .int .i64 defs]]) [Sl 4 tokF A l]
  first | refine c_dec rfl (fun h17 => ?_) (fun h17 => ?_) | refine c_cond rfl (fun h17 => ?_) (fun h17 => ?_)
  · skip
    refine c_seq ?_
    refine c_reg ?_
    refine l_q (by decide) (p_assign rfl).q ?_
    refine l_nil ?_
    refine c_ret ?_
    refine c_ret1 rfl rfl (fun w hs => ?_)
    exact ⟨rfl, hs.ext⟩
  · skip
    have hf : Lay.Fair l s defs := Lay.fairB_spec (Classical.byContradiction fun h => h17 (.inl h))
    have hpl : Lay.Plain defs l := Lay.plainB_spec.1 (Classical.byContradiction fun h => h17 (.inr h))
    refine c_skip ?_
    refine c_seq ?_
    refine m_draw [] mixed ?_
    first | refine m_takep 0 rfl (by kernel_rfl) (by decide) (p_faddr (i := 0) 0 Try.underlying24 rfl inf_22 (by decide) rfl rfl) ?_ | refine m_takep 0 rfl (by kernel_rfl) (by decide) (p_faddro (i := 0) 0 Try.underlying24 rfl inf_22 (by decide) rfl rfl) ?_
    first | refine m_take 1 rfl (by kernel_rfl) (by decide) (by first | exact (List.Perm.refl _ : List.Perm _ ([] ++ _)) | exact (List.Perm.refl _ : List.Perm _ ([_] ++ _)) | exact (List.Perm.refl _ : List.Perm _ ([_, _] ++ _)) | exact (List.Perm.refl _ : List.Perm _ ([_, _, _] ++ _)) | exact (List.Perm.refl _ : List.Perm _ ([_, _, _, _] ++ _)) | exact (List.Perm.refl _ : List.Perm _ ([_, _, _, _, _] ++ _))) (by first | exact fun _ h => h | exact fun _ h => List.mem_cons_of_mem _ h | exact fun _ h => List.mem_cons_of_mem _ (List.mem_cons_of_mem _ h)) (r_loado Try.underlying22 rfl rfl (by repeat (first | exact List.Mem.head _ | apply List.Mem.tail)) (by rfl)).r ?_ | refine m_take 1 rfl (by kernel_rfl) (by decide) (by first | exact (List.Perm.refl _ : List.Perm _ ([] ++ _)) | exact (List.Perm.refl _ : List.Perm _ ([_] ++ _)) | exact (List.Perm.refl _ : List.Perm _ ([_, _] ++ _)) | exact (List.Perm.refl _ : List.Perm _ ([_, _, _] ++ _)) | exact (List.Perm.refl _ : List.Perm _ ([_, _, _, _] ++ _)) | exact (List.Perm.refl _ : List.Perm _ ([_, _, _, _, _] ++ _))) (by first | exact fun _ h => h | exact fun _ h => List.mem_cons_of_mem _ h | exact fun _ h => List.mem_cons_of_mem _ (List.mem_cons_of_mem _ h)) (r_load1 Try.underlying22 rfl rfl (by first | exact .fact (by repeat (first | exact List.Mem.head _ | apply List.Mem.tail)) | exact .own (by repeat (first | exact List.Mem.head _ | apply List.Mem.tail)) (by decide) (fun _ => rfl)) (by first | assumption | rfl) (by rfl)).r ?_ | refine m_take 1 rfl (by kernel_rfl) (by decide) (by first | exact (List.Perm.refl _ : List.Perm _ ([] ++ _)) | exact (List.Perm.refl _ : List.Perm _ ([_] ++ _)) | exact (List.Perm.refl _ : List.Perm _ ([_, _] ++ _)) | exact (List.Perm.refl _ : List.Perm _ ([_, _, _] ++ _)) | exact (List.Perm.refl _ : List.Perm _ ([_, _, _, _] ++ _)) | exact (List.Perm.refl _ : List.Perm _ ([_, _, _, _, _] ++ _))) (by first | exact fun _ h => h | exact fun _ h => List.mem_cons_of_mem _ h | exact fun _ h => List.mem_cons_of_mem _ (List.mem_cons_of_mem _ h)) (r_loadf Try.underlying22 rfl rfl (by first | exact .fact (by repeat (first | exact List.Mem.head _ | apply List.Mem.tail)) | exact .own (by repeat (first | exact List.Mem.head _ | apply List.Mem.tail)) (by decide) (fun _ => rfl)) (by assumption) (by rfl)).r ?_
    first | refine m_takep 2 rfl (by kernel_rfl) (by decide) (p_faddr (i := 1) 1 Try.underlying24 rfl inf_9 (by decide) rfl rfl) ?_ | refine m_takep 2 rfl (by kernel_rfl) (by decide) (p_faddro (i := 1) 1 Try.underlying24 rfl inf_9 (by decide) rfl rfl) ?_
    first | refine m_take 3 rfl (by kernel_rfl) (by decide) (by first | exact (List.Perm.refl _ : List.Perm _ ([] ++ _)) | exact (List.Perm.refl _ : List.Perm _ ([_] ++ _)) | exact (List.Perm.refl _ : List.Perm _ ([_, _] ++ _)) | exact (List.Perm.refl _ : List.Perm _ ([_, _, _] ++ _)) | exact (List.Perm.refl _ : List.Perm _ ([_, _, _, _] ++ _)) | exact (List.Perm.refl _ : List.Perm _ ([_, _, _, _, _] ++ _))) (by first | exact fun _ h => h | exact fun _ h => List.mem_cons_of_mem _ h | exact fun _ h => List.mem_cons_of_mem _ (List.mem_cons_of_mem _ h)) (r_loado Try.underlying9 rfl rfl (by repeat (first | exact List.Mem.head _ | apply List.Mem.tail)) (by rfl)).r ?_ | refine m_take 3 rfl (by kernel_rfl) (by decide) (by first | exact (List.Perm.refl _ : List.Perm _ ([] ++ _)) | exact (List.Perm.refl _ : List.Perm _ ([_] ++ _)) | exact (List.Perm.refl _ : List.Perm _ ([_, _] ++ _)) | exact (List.Perm.refl _ : List.Perm _ ([_, _, _] ++ _)) | exact (List.Perm.refl _ : List.Perm _ ([_, _, _, _] ++ _)) | exact (List.Perm.refl _ : List.Perm _ ([_, _, _, _, _] ++ _))) (by first | exact fun _ h => h | exact fun _ h => List.mem_cons_of_mem _ h | exact fun _ h => List.mem_cons_of_mem _ (List.mem_cons_of_mem _ h)) (r_load1 Try.underlying9 rfl rfl (by first | exact .fact (by repeat (first | exact List.Mem.head _ | apply List.Mem.tail)) | exact .own (by repeat (first | exact List.Mem.head _ | apply List.Mem.tail)) (by decide) (fun _ => rfl)) (by first | assumption | rfl) (by rfl)).r ?_ | refine m_take 3 rfl (by kernel_rfl) (by decide) (by first | exact (List.Perm.refl _ : List.Perm _ ([] ++ _)) | exact (List.Perm.refl _ : List.Perm _ ([_] ++ _)) | exact (List.Perm.refl _ : List.Perm _ ([_, _] ++ _)) | exact (List.Perm.refl _ : List.Perm _ ([_, _, _] ++ _)) | exact (List.Perm.refl _ : List.Perm _ ([_, _, _, _] ++ _)) | exact (List.Perm.refl _ : List.Perm _ ([_, _, _, _, _] ++ _))) (by first | exact fun _ h => h | exact fun _ h => List.mem_cons_of_mem _ h | exact fun _ h => List.mem_cons_of_mem _ (List.mem_cons_of_mem _ h)) (r_loadf Try.underlying9 rfl rfl (by first | exact .fact (by repeat (first | exact List.Mem.head _ | apply List.Mem.tail)) | exact .own (by repeat (first | exact List.Mem.head _ | apply List.Mem.tail)) (by decide) (fun _ => rfl)) (by assumption) (by rfl)).r ?_
    first | refine m_takep 4 rfl (by kernel_rfl) (by decide) (p_faddr (i := 2) 2 Try.underlying24 rfl inf_3 (by decide) rfl rfl) ?_ | refine m_takep 4 rfl (by kernel_rfl) (by decide) (p_faddro (i := 2) 2 Try.underlying24 rfl inf_3 (by decide) rfl rfl) ?_
    first | refine m_take 5 rfl (by kernel_rfl) (by decide) (by first | exact (List.Perm.refl _ : List.Perm _ ([] ++ _)) | exact (List.Perm.refl _ : List.Perm _ ([_] ++ _)) | exact (List.Perm.refl _ : List.Perm _ ([_, _] ++ _)) | exact (List.Perm.refl _ : List.Perm _ ([_, _, _] ++ _)) | exact (List.Perm.refl _ : List.Perm _ ([_, _, _, _] ++ _)) | exact (List.Perm.refl _ : List.Perm _ ([_, _, _, _, _] ++ _))) (by first | exact fun _ h => h | exact fun _ h => List.mem_cons_of_mem _ h | exact fun _ h => List.mem_cons_of_mem _ (List.mem_cons_of_mem _ h)) (r_loado Try.underlying3 rfl rfl (by repeat (first | exact List.Mem.head _ | apply List.Mem.tail)) (by rfl)).r ?_ | refine m_take 5 rfl (by kernel_rfl) (by decide) (by first | exact (List.Perm.refl _ : List.Perm _ ([] ++ _)) | exact (List.Perm.refl _ : List.Perm _ ([_] ++ _)) | exact (List.Perm.refl _ : List.Perm _ ([_, _] ++ _)) | exact (List.Perm.refl _ : List.Perm _ ([_, _, _] ++ _)) | exact (List.Perm.refl _ : List.Perm _ ([_, _, _, _] ++ _)) | exact (List.Perm.refl _ : List.Perm _ ([_, _, _, _, _] ++ _))) (by first | exact fun _ h => h | exact fun _ h => List.mem_cons_of_mem _ h | exact fun _ h => List.mem_cons_of_mem _ (List.mem_cons_of_mem _ h)) (r_load1 Try.underlying3 rfl rfl (by first | exact .fact (by repeat (first | exact List.Mem.head _ | apply List.Mem.tail)) | exact .own (by repeat (first | exact List.Mem.head _ | apply List.Mem.tail)) (by decide) (fun _ => rfl)) (by first | assumption | rfl) (by rfl)).r ?_ | refine m_take 5 rfl (by kernel_rfl) (by decide) (by first | exact (List.Perm.refl _ : List.Perm _ ([] ++ _)) | exact (List.Perm.refl _ : List.Perm _ ([_] ++ _)) | exact (List.Perm.refl _ : List.Perm _ ([_, _] ++ _)) | exact (List.Perm.refl _ : List.Perm _ ([_, _, _] ++ _)) | exact (List.Perm.refl _ : List.Perm _ ([_, _, _, _] ++ _)) | exact (List.Perm.refl _ : List.Perm _ ([_, _, _, _, _] ++ _))) (by first | exact fun _ h => h | exact fun _ h => List.mem_cons_of_mem _ h | exact fun _ h => List.mem_cons_of_mem _ (List.mem_cons_of_mem _ h)) (r_loadf Try.underlying3 rfl rfl (by first | exact .fact (by repeat (first | exact List.Mem.head _ | apply List.Mem.tail)) | exact .own (by repeat (first | exact List.Mem.head _ | apply List.Mem.tail)) (by decide) (fun _ => rfl)) (by assumption) (by rfl)).r ?_
    first | refine m_takep 7 rfl (by kernel_rfl) (by decide) (p_faddr (i := 2) 2 Try.underlying24 rfl inf_3 (by decide) rfl rfl) ?_ | refine m_takep 7 rfl (by kernel_rfl) (by decide) (p_faddro (i := 2) 2 Try.underlying24 rfl inf_3 (by decide) rfl rfl) ?_
    first | refine m_take 8 rfl (by kernel_rfl) (by decide) (by first | exact (List.Perm.refl _ : List.Perm _ ([] ++ _)) | exact (List.Perm.refl _ : List.Perm _ ([_] ++ _)) | exact (List.Perm.refl _ : List.Perm _ ([_, _] ++ _)) | exact (List.Perm.refl _ : List.Perm _ ([_, _, _] ++ _)) | exact (List.Perm.refl _ : List.Perm _ ([_, _, _, _] ++ _)) | exact (List.Perm.refl _ : List.Perm _ ([_, _, _, _, _] ++ _))) (by first | exact fun _ h => h | exact fun _ h => List.mem_cons_of_mem _ h | exact fun _ h => List.mem_cons_of_mem _ (List.mem_cons_of_mem _ h)) (r_loado Try.underlying3 rfl rfl (by repeat (first | exact List.Mem.head _ | apply List.Mem.tail)) (by rfl)).r ?_ | refine m_take 8 rfl (by kernel_rfl) (by decide) (by first | exact (List.Perm.refl _ : List.Perm _ ([] ++ _)) | exact (List.Perm.refl _ : List.Perm _ ([_] ++ _)) | exact (List.Perm.refl _ : List.Perm _ ([_, _] ++ _)) | exact (List.Perm.refl _ : List.Perm _ ([_, _, _] ++ _)) | exact (List.Perm.refl _ : List.Perm _ ([_, _, _, _] ++ _)) | exact (List.Perm.refl _ : List.Perm _ ([_, _, _, _, _] ++ _))) (by first | exact fun _ h => h | exact fun _ h => List.mem_cons_of_mem _ h | exact fun _ h => List.mem_cons_of_mem _ (List.mem_cons_of_mem _ h)) (r_load1 Try.underlying3 rfl rfl (by first | exact .fact (by repeat (first | exact List.Mem.head _ | apply List.Mem.tail)) | exact .own (by repeat (first | exact List.Mem.head _ | apply List.Mem.tail)) (by decide) (fun _ => rfl)) (by first | assumption | rfl) (by rfl)).r ?_ | refine m_take 8 rfl (by kernel_rfl) (by decide) (by first | exact (List.Perm.refl _ : List.Perm _ ([] ++ _)) | exact (List.Perm.refl _ : List.Perm _ ([_] ++ _)) | exact (List.Perm.refl _ : List.Perm _ ([_, _] ++ _)) | exact (List.Perm.refl _ : List.Perm _ ([_, _, _] ++ _)) | exact (List.Perm.refl _ : List.Perm _ ([_, _, _, _] ++ _)) | exact (List.Perm.refl _ : List.Perm _ ([_, _, _, _, _] ++ _))) (by first | exact fun _ h => h | exact fun _ h => List.mem_cons_of_mem _ h | exact fun _ h => List.mem_cons_of_mem _ (List.mem_cons_of_mem _ h)) (r_loadf Try.underlying3 rfl rfl (by first | exact .fact (by repeat (first | exact List.Mem.head _ | apply List.Mem.tail)) | exact .own (by repeat (first | exact List.Mem.head _ | apply List.Mem.tail)) (by decide) (fun _ => rfl)) (by assumption) (by rfl)).r ?_
    first | refine m_takep 10 rfl (by kernel_rfl) (by decide) (p_faddr (i := 0) 0 Try.underlying24 rfl inf_22 (by decide) rfl rfl) ?_ | refine m_takep 10 rfl (by kernel_rfl) (by decide) (p_faddro (i := 0) 0 Try.underlying24 rfl inf_22 (by decide) rfl rfl) ?_
    first | refine m_take 11 rfl (by kernel_rfl) (by decide) (by first | exact (List.Perm.refl _ : List.Perm _ ([] ++ _)) | exact (List.Perm.refl _ : List.Perm _ ([_] ++ _)) | exact (List.Perm.refl _ : List.Perm _ ([_, _] ++ _)) | exact (List.Perm.refl _ : List.Perm _ ([_, _, _] ++ _)) | exact (List.Perm.refl _ : List.Perm _ ([_, _, _, _] ++ _)) | exact (List.Perm.refl _ : List.Perm _ ([_, _, _, _, _] ++ _))) (by first | exact fun _ h => h | exact fun _ h => List.mem_cons_of_mem _ h | exact fun _ h => List.mem_cons_of_mem _ (List.mem_cons_of_mem _ h)) (r_loado Try.underlying22 rfl rfl (by repeat (first | exact List.Mem.head _ | apply List.Mem.tail)) (by rfl)).r ?_ | refine m_take 11 rfl (by kernel_rfl) (by decide) (by first | exact (List.Perm.refl _ : List.Perm _ ([] ++ _)) | exact (List.Perm.refl _ : List.Perm _ ([_] ++ _)) | exact (List.Perm.refl _ : List.Perm _ ([_, _] ++ _)) | exact (List.Perm.refl _ : List.Perm _ ([_, _, _] ++ _)) | exact (List.Perm.refl _ : List.Perm _ ([_, _, _, _] ++ _)) | exact (List.Perm.refl _ : List.Perm _ ([_, _, _, _, _] ++ _))) (by first | exact fun _ h => h | exact fun _ h => List.mem_cons_of_mem _ h | exact fun _ h => List.mem_cons_of_mem _ (List.mem_cons_of_mem _ h)) (r_load1 Try.underlying22 rfl rfl (by first | exact .fact (by repeat (first | exact List.Mem.head _ | apply List.Mem.tail)) | exact .own (by repeat (first | exact List.Mem.head _ | apply List.Mem.tail)) (by decide) (fun _ => rfl)) (by first | assumption | rfl) (by rfl)).r ?_ | refine m_take 11 rfl (by kernel_rfl) (by decide) (by first | exact (List.Perm.refl _ : List.Perm _ ([] ++ _)) | exact (List.Perm.refl _ : List.Perm _ ([_] ++ _)) | exact (List.Perm.refl _ : List.Perm _ ([_, _] ++ _)) | exact (List.Perm.refl _ : List.Perm _ ([_, _, _] ++ _)) | exact (List.Perm.refl _ : List.Perm _ ([_, _, _, _] ++ _)) | exact (List.Perm.refl _ : List.Perm _ ([_, _, _, _, _] ++ _))) (by first | exact fun _ h => h | exact fun _ h => List.mem_cons_of_mem _ h | exact fun _ h => List.mem_cons_of_mem _ (List.mem_cons_of_mem _ h)) (r_loadf Try.underlying22 rfl rfl (by first | exact .fact (by repeat (first | exact List.Mem.head _ | apply List.Mem.tail)) | exact .own (by repeat (first | exact List.Mem.head _ | apply List.Mem.tail)) (by decide) (fun _ => rfl)) (by assumption) (by rfl)).r ?_
    refine m_run 6 rfl (by kernel_rfl) ?_
    refine l_call (X := Capd (Lay.app l s defs)) (fun x => .slice x.1.1 (Lay.app l s defs).length x.1.2) (fun x => Sl 4 tokF x.1.1 (Lay.app l s defs)) (by decide) call_13 rfl (fun w hs => apply_ok A c l s defs hf.len (by have := hf.slen; omega) hf.d0 hf.d1 hf.at_ w (hs.facts _ (by repeat (first | exact List.Mem.head _ | apply List.Mem.tail))).1) (fun x24 => ?_)
    refine l_nil ?_
    refine m_next _ (by first | exact (List.Perm.refl _ : List.Perm _ ([] ++ _)) | exact (List.Perm.refl _ : List.Perm _ ([_] ++ _)) | exact (List.Perm.refl _ : List.Perm _ ([_, _] ++ _)) | exact (List.Perm.refl _ : List.Perm _ ([_, _, _] ++ _)) | exact (List.Perm.refl _ : List.Perm _ ([_, _, _, _] ++ _)) | exact (List.Perm.refl _ : List.Perm _ ([_, _, _, _, _] ++ _))) (by first | exact fun _ h => h | exact fun _ h => List.mem_cons_of_mem _ h | exact fun _ h => List.mem_cons_of_mem _ (List.mem_cons_of_mem _ h)) ?_
    refine m_run 9 rfl (by kernel_rfl) ?_
    refine l_call (X := Option Addr × Nat) (fun x => .slice x.1 (Lay.strip defs (Lay.app l s defs)).length x.2) (fun x => Sl 4 tokF x.1 (Lay.strip defs (Lay.app l s defs))) (by decide) call_18 rfl (fun w hs => strip_ok x24.1.1 x24.1.2 (Lay.app l s defs) defs (app_short hf) w (hs.facts _ (by repeat (first | exact List.Mem.head _ | apply List.Mem.tail))).1) (fun x27 => ?_)
    refine l_nil ?_
    refine m_next _ (by first | exact (List.Perm.refl _ : List.Perm _ ([] ++ _)) | exact (List.Perm.refl _ : List.Perm _ ([_] ++ _)) | exact (List.Perm.refl _ : List.Perm _ ([_, _] ++ _)) | exact (List.Perm.refl _ : List.Perm _ ([_, _, _] ++ _)) | exact (List.Perm.refl _ : List.Perm _ ([_, _, _, _] ++ _)) | exact (List.Perm.refl _ : List.Perm _ ([_, _, _, _, _] ++ _))) (by first | exact fun _ h => h | exact fun _ h => List.mem_cons_of_mem _ h | exact fun _ h => List.mem_cons_of_mem _ (List.mem_cons_of_mem _ h)) ?_
    refine m_run 12 rfl (by kernel_rfl) ?_
    refine l_q (by decide) (q_call call_12 rfl (fun w hs => same_true x27.1 A x27.2 c _ l (Lay.strip_app l s defs hpl) (by rw [Lay.strip_app l s defs hpl]; have := hf.len; omega) w (hs.facts _ (by repeat (first | exact List.Mem.head _ | apply List.Mem.tail))).1 (hs.facts _ (by repeat (first | exact List.Mem.head _ | apply List.Mem.tail))).1)) ?_
    refine l_nil ?_
    refine m_next _ (by first | exact (List.Perm.refl _ : List.Perm _ ([] ++ _)) | exact (List.Perm.refl _ : List.Perm _ ([_] ++ _)) | exact (List.Perm.refl _ : List.Perm _ ([_, _] ++ _)) | exact (List.Perm.refl _ : List.Perm _ ([_, _, _] ++ _)) | exact (List.Perm.refl _ : List.Perm _ ([_, _, _, _] ++ _)) | exact (List.Perm.refl _ : List.Perm _ ([_, _, _, _, _] ++ _))) (by first | exact fun _ h => h | exact fun _ h => List.mem_cons_of_mem _ h | exact fun _ h => List.mem_cons_of_mem _ (List.mem_cons_of_mem _ h)) ?_
    refine m_takep 13 rfl (by kernel_rfl) (by decide) (p_assign rfl) ?_
    refine m_done (by kernel_rfl) ?_
    refine c_ret ?_
    refine c_ret1 rfl rfl (fun w hs => ?_)
    exact ⟨rfl, hs.ext⟩

theorem match2_law (A : Option Addr) (c : Nat) (l : List Lay.T) (defs : Int) (hl : l.length ≤ 140737488351232) (hk : ∀ t, t ∈ l → -9223372036854775808 ≤ t.kind ∧ t.kind ≤ 9223372036854775807) (w : World) (hq : Sl 4 tokF A l w) :
    Calls Try.prog 6 #[.slice A l.length c, .int .i64 defs] w (Ret fun v w' => v = .bool true ∧ Ext [] w w') := by
  refine calls_fx (l := [.slice A l.length c, .int .i64 defs]) Try.func6 rfl Try.ntmps6 (Nat.le_of_ble_eq_true rfl) ((St.start w).old hq (dep_sl (by decide) hq)) ?_
  refine c_seq ?_
  refine c_reg ?_
  refine l_q (by decide) (p_assign rfl).q ?_
  refine l_nil ?_
  refine c_seq ?_
  refine c_seq ?_
  refine c_reg ?_
  refine l_q (by decide) (q_call call_10 rfl (fun w hs => awake_ok w)) ?_
  refine l_q (by decide) (p_not rfl).q ?_
  refine l_nil ?_
  refine c_false rfl ?_
  refine c_skip ?_
  refine c_seq ?_
  refine c_seq ?_
  refine c_meetn (S := Unit) (fun zs => True) (fun zs => [(0, .slice A l.length c), (1, .int .i64 defs), (17, .bool (decide (60 < l.length ∨ defs < -1000 ∨ 1000 < defs)))]) (fun zs => []) (fun zs => [Sl 4 tokF A l]) ?_ ?_
  · skip
    refine c_reg ?_
    refine l_q (by decide) (p_move rfl).q ?_
    refine l_q (by decide) (p_len_sl Try.underlying22 rfl).q ?_
    first | refine l_q (by decide) (p_gtr (j := 60) rfl rfl rfl rfl).q ?_ | refine l_q (by decide) (p_gtri rfl rfl).q ?_
    refine l_q (by decide) (p_move rfl).q ?_
    first | refine l_splitd (t := 10) rfl (fun h10 => ?_) (fun h10 => ?_) | refine l_splitb (t := 10) rfl (fun h10 => ?_) (fun h10 => ?_)
    · skip
      refine l_off (j := 3) rfl rfl (by first | (simp; done) | (simp [undef]; done)) (by decide) ?_
      refine l_off (j := 3) rfl rfl (by first | (simp; done) | (simp [undef]; done)) (by decide) ?_
      refine l_q (by decide) (p_pick rfl rfl).q ?_
      refine l_q (by decide) (p_move rfl).q ?_
      refine l_off (j := 7) rfl rfl (by first | (simp; done) | (simp [undef]; done)) (by decide) ?_
      refine l_off (j := 7) rfl rfl (by first | (simp; done) | (simp [undef]; done)) (by decide) ?_
      refine l_q (by decide) (p_pick rfl rfl).q ?_
      refine l_nil ?_
      refine c_join (()) ?inv ?sub ?perm ?facts
      case sub => exact ⟨rfl, rfl, (by first | rfl | exact congrArg (fun b => some (Value.bool b)) (decide_eq_true (by omega)).symm | exact congrArg (fun b => some (Value.bool b)) (decide_eq_false (by omega)).symm | exact congrArg (fun b => some (Value.bool b)) (decide_eq_decide.2 (by omega))), trivial⟩
      case perm =>
        exact .refl _
      case facts => exact fun _ h => h
      case inv =>
        trivial
    · skip
      refine l_g (j := 3) rfl rfl (by decide) (p_move rfl).q ?_
      first | refine l_g (j := 3) rfl rfl (by decide) (p_lss rfl rfl rfl rfl).q ?_ | refine l_g (j := 3) rfl rfl (by decide) (p_lssi rfl rfl).q ?_
      refine l_q (by decide) (p_pick rfl rfl).q ?_
      refine l_q (by decide) (p_move rfl).q ?_
      first | refine l_splitd (t := 14) rfl (fun h14 => ?_) (fun h14 => ?_) | refine l_splitb (t := 14) rfl (fun h14 => ?_) (fun h14 => ?_)
      · skip
        refine l_off (j := 7) rfl rfl (by first | (simp; done) | (simp [undef]; done)) (by decide) ?_
        refine l_off (j := 7) rfl rfl (by first | (simp; done) | (simp [undef]; done)) (by decide) ?_
        refine l_q (by decide) (p_pick rfl rfl).q ?_
        refine l_nil ?_
        refine c_join (()) ?inv ?sub ?perm ?facts
        case sub => exact ⟨rfl, rfl, (by first | rfl | exact congrArg (fun b => some (Value.bool b)) (decide_eq_true (by omega)).symm | exact congrArg (fun b => some (Value.bool b)) (decide_eq_false (by omega)).symm | exact congrArg (fun b => some (Value.bool b)) (decide_eq_decide.2 (by omega))), trivial⟩
        case perm =>
          exact .refl _
        case facts => exact fun _ h => h
        case inv =>
          trivial
      · skip
        refine l_g (j := 7) rfl rfl (by decide) (p_move rfl).q ?_
        first | refine l_g (j := 7) rfl rfl (by decide) (p_gtr (j := 1000) rfl rfl rfl rfl).q ?_ | refine l_g (j := 7) rfl rfl (by decide) (p_gtri rfl rfl).q ?_
        refine l_q (by decide) (p_pick rfl rfl).q ?_
        refine l_nil ?_
        refine c_join (()) ?inv ?sub ?perm ?facts
        case sub => exact ⟨rfl, rfl, (by first | rfl | exact congrArg (fun b => some (Value.bool b)) (decide_eq_true (by omega)).symm | exact congrArg (fun b => some (Value.bool b)) (decide_eq_false (by omega)).symm | exact congrArg (fun b => some (Value.bool b)) (decide_eq_decide.2 (by omega))), trivial⟩
        case perm =>
          exact .refl _
        case facts => exact fun _ h => h
        case inv =>
          trivial
  rintro uu hmeet
  show Cont _ _ _ _ [(0, .slice A l.length c), (1, .int .i64 defs), (17, .bool (decide (60 < l.length ∨ defs < -1000 ∨ 1000 < defs)))] ([]) [Sl 4 tokF A l]
  first | refine c_dec rfl (fun h17 => ?_) (fun h17 => ?_) | refine c_cond rfl (fun h17 => ?_) (fun h17 => ?_)
  · skip
    refine c_seq ?_
    refine c_reg ?_
    refine l_q (by decide) (p_assign rfl).q ?_
    refine l_nil ?_
    refine c_ret ?_
    refine c_ret1 rfl rfl (fun w hs => ?_)
    exact ⟨rfl, hs.ext⟩
  · skip
    refine c_skip ?_
    refine c_seq ?_
    refine c_reg ?_
    refine l_q (by decide) (p_move rfl).q ?_
    refine l_q (by decide) (p_move rfl).q ?_
    refine l_call (X := Option Addr × Nat) (fun x => .slice x.1 (Lay.strip defs (l)).length x.2) (fun x => Sl 4 tokF x.1 (Lay.strip defs (l))) (by decide) call_18 rfl (fun w hs => strip_ok A c (l) defs (by omega) w (hs.facts _ (by repeat (first | exact List.Mem.head _ | apply List.Mem.tail))).1) (fun x20 => ?_)
    refine l_q (by decide) (p_move rfl).q ?_
    refine l_q (by decide) (p_move rfl).q ?_
    refine l_call (X := Option Addr × Nat) (fun x => .slice x.1 (Lay.strip defs (l)).length x.2) (fun x => Sl 4 tokF x.1 (Lay.strip defs (l))) (by decide) call_19 rfl (fun w hs => strip2_ok A c (l) defs (by omega) w (hs.facts _ (by repeat (first | exact List.Mem.head _ | apply List.Mem.tail))).1) (fun x23 => ?_)
    refine l_q (by decide) (q_call call_12 rfl (fun w hs => same_true x20.1 x23.1 x20.2 x23.2 _ _ rfl (by have := strip_len defs l l.length; rw [List.take_length] at this; omega) w (hs.facts _ (by repeat (first | exact List.Mem.head _ | apply List.Mem.tail))).1 (hs.facts _ (by repeat (first | exact List.Mem.head _ | apply List.Mem.tail))).1)) ?_
    refine l_q (by decide) (p_move rfl).q ?_
    refine l_g (j := 7) rfl rfl (by decide) (p_move rfl).q ?_
    refine l_g (j := 7) rfl rfl (by decide) (p_move rfl).q ?_
    refine l_g (j := 7) rfl rfl (by decide) (q_call call_17 rfl (fun w hs => bal_ok A c l defs (by omega) (by omega) (by omega) hk w (hs.facts _ (by repeat (first | exact List.Mem.head _ | apply List.Mem.tail))).1)) ?_
    refine l_g (j := 7) rfl rfl (by decide) (p_move rfl).q ?_
    refine l_g (j := 7) rfl rfl (by decide) (p_move rfl).q ?_
    refine l_g (j := 7) rfl rfl (by decide) (q_call call_16 rfl (fun w hs => balref_ok A c l defs (by omega) (by omega) (by omega) hk w (hs.facts _ (by repeat (first | exact List.Mem.head _ | apply List.Mem.tail))).1)) ?_
    refine l_g (j := 7) rfl rfl (by decide) (((p_eqb Try.underlying4 rfl rfl)).to (u := .bool true) (by simp)).q ?_
    refine l_q (by decide) (p_pick rfl rfl).q ?_
    refine l_q (by decide) (p_assign rfl).q ?_
    refine l_nil ?_
    refine c_ret ?_
    refine c_ret1 rfl rfl (fun w hs => ?_)
    exact ⟨rfl, hs.ext⟩
end Go.Proofs.Ytejhgbnpmelgcaa
