/- The walks of textdiff, eighth part; conditions: none. -/
import Derived.Test.YtnkmemoagimddaaWalksG
namespace Go.Proofs.Ytnkmemoagimddaa
open Go Go.Fx Go.Proofs

theorem dl_at (a : List UInt8) (n d k : Nat) (hk : k < d) : ((a.drop n).take (n + d - n))[k]? = a[n + k]? := by rw [show n + d - n = d by omega, List.getElem?_take, if_pos hk, List.getElem?_drop]
theorem dl_len (a : List UInt8) (n d : Nat) (h : n + d ≤ a.length) : ((a.drop n).take (n + d - n)).length = d := by simp only [List.length_take, List.length_drop]; omega
theorem toNat_ne {x y : UInt8} (h : x ≠ y) : x.toNat ≠ y.toNat := fun e => h (UInt8.toNat_inj.1 e)
abbrev AppR (a : List UInt8) (x y : Int) (s : List UInt8) := { r : List UInt8 × Int // (fitsP a x y → r = (a.take x.toNat ++ s ++ a.drop (x.toNat + y.toNat), 0)) ∧ (¬ fitsP a x y → r = ([], 2)) }
theorem apply_as (a : List UInt8) (x y : Int) (s : List UInt8) (hl : a.length ≤ 140737488355328) (hsl : s.length ≤ 140737488355328) (w : World) : Calls Try.prog 20 #[str a, .agg #[.int .i64 x, .int .i64 y, str s]] w (Ret fun v w' => ∃ r : AppR a x y s, v = .tuple #[str r.1.1, .int .i64 r.1.2] ∧ True ∧ Dep w.heap.size w'.heap.size (fun _ => True) ∧ Ext [] w w') := by
  refine (apply_ok a x y s hl hsl w).mono fun e w' h => ?_
  cases e with
  | returned v =>
    obtain ⟨h1, h2, h3⟩ := h
    by_cases hf : fitsP a x y
    · exact ⟨⟨(_, 0), fun _ => rfl, fun h => absurd hf h⟩, h1 hf, trivial, fun _ _ _ h => h, h3⟩
    · exact ⟨⟨([], 2), fun h => absurd h hf, fun _ => rfl⟩, h2 hf, trivial, fun _ _ _ h => h, h3⟩
  | _ => exact h.elim
theorem call_19 : Callable Try.prog 19 := ⟨_, Try.func19, by kernel_rfl, rfl⟩
theorem call_20 : Callable Try.prog 20 := ⟨_, Try.func20, by kernel_rfl, rfl⟩
theorem hull_law (a b : List UInt8) (w : World) :
    Calls Try.prog 8 #[str a, str b] w (Ret fun v w' => v = .bool true ∧ Ext [] w w') := by
  refine calls_fx (l := [str a, str b]) Try.func8 rfl Try.ntmps8 (Nat.le_of_ble_eq_true rfl) (St.start w) ?_
  refine c_seq ?_
  refine c_reg ?_
  refine l_q (by decide) (p_assign rfl).q ?_
  refine l_nil ?_
  refine c_seq ?_
  refine c_seq ?_
  refine c_reg ?_
  refine l_q (by decide) (q_call call_10 rfl (fun w hs => awake_ok w)) ?_
  refine l_q (by decide) (p_not rfl).q ?_
  refine l_nil ?_
  refine c_false rfl ?_
  refine c_skip ?_
  refine c_seq ?_
  refine c_seq ?_
  refine c_reg ?_
  refine l_q (by decide) (p_move rfl).q ?_
  refine l_q (by decide) (p_move rfl).q ?_
  refine l_q (by decide) (q_call call_11 rfl (fun w hs => few_ok a b w)) ?_
  first | refine l_q (by decide) (p_notd rfl).q ?_ | refine l_q (by decide) (p_not rfl).q ?_
  refine l_nil ?_
  first | refine c_dec rfl (fun h14 => ?_) (fun h14 => ?_) | refine c_cond rfl (fun h14 => ?_) (fun h14 => ?_)
  · skip
    refine c_seq ?_
    refine c_reg ?_
    refine l_q (by decide) (p_assign rfl).q ?_
    refine l_nil ?_
    refine c_ret ?_
    refine c_ret1 rfl rfl (fun w hs => ?_)
    exact ⟨rfl, hs.ext⟩
  · skip
    have hf : a.length ≤ 80 ∧ b.length ≤ 80 := by simpa using h14
    have hlc := Td.lcp_le a b
    have hsu := Td.suf_le a b
    have hil := Td.hull_ins_length a b
    have had : (Td.hull a b).at_ + (Td.hull a b).del ≤ a.length := by show Td.lcp a b + (a.length - Td.lcp a b - Td.suf a b) ≤ _; omega
    have hdl := dl_len a _ _ had
    refine c_skip ?_
    refine c_seq ?_
    refine c_reg ?_
    refine l_q (by decide) (p_move rfl).q ?_
    refine l_q (by decide) (p_move rfl).q ?_
    refine l_q (by decide) (q_call call_18 rfl (fun w hs => hull_ok a b (by omega) (by omega) w)) ?_
    refine l_alloc (by decide) inf_30 _ rfl (fun b5 => ?_)
    first | (refine l_storew inf_30 rfl rfl rfl rfl rfl ?_) | (refine l_perm (front1 _ _ _) ?_; refine l_storew inf_30 rfl rfl rfl rfl rfl ?_) | (refine l_perm (front2 _ _ _ _) ?_; refine l_storew inf_30 rfl rfl rfl rfl rfl ?_) | (refine l_perm (front3 _ _ _ _ _) ?_; refine l_storew inf_30 rfl rfl rfl rfl rfl ?_) | (refine l_perm (front4 _ _ _ _ _ _) ?_; refine l_storew inf_30 rfl rfl rfl rfl rfl ?_) | (refine l_storea inf_30 rfl rfl rfl rfl (by decide) ?_) | (refine l_perm (front1 _ _ _) ?_; refine l_storea inf_30 rfl rfl rfl rfl (by decide) ?_) | (refine l_perm (front2 _ _ _ _) ?_; refine l_storea inf_30 rfl rfl rfl rfl (by decide) ?_)
    refine l_nil ?_
    refine c_seq ?_
    refine c_reg ?_
    refine l_q (by decide) (p_move rfl).q ?_
    first | refine l_q (by decide) (r_loada Try.underlying30 rfl inf_30 rfl (by first | exact .fact (by repeat (first | exact List.Mem.head _ | apply List.Mem.tail)) | exact .own (by repeat (first | exact List.Mem.head _ | apply List.Mem.tail)) (by decide) (fun _ => rfl)) (by assumption)).q ?_ | refine l_q (by decide) (r_loadow Try.underlying30 rfl inf_30 rfl (by repeat (first | exact List.Mem.head _ | apply List.Mem.tail)) (by rfl)).q ?_ | refine l_q (by decide) (r_loadoa Try.underlying30 rfl inf_30 rfl (by repeat (first | exact List.Mem.head _ | apply List.Mem.tail)) (by rfl) (fun j u h => h)).q ?_
    refine l_buildSlice (by decide) Try.underlying27 inf_30 (by decide) (by decide) rfl rfl rfl rfl (fun b21 => ?_)
    refine l_sealc edF [Td.hull a b] rfl len_edF ?_
    refine l_q (by decide) (q_call call_17 rfl (fun w hs => together_ok a (some ⟨b21, 0, none⟩) 1 [Td.hull a b] b (by omega) (by simp) (by omega) (Td.hull_tog a b) w (hs.facts _ (by repeat (first | exact List.Mem.head _ | apply List.Mem.tail))).1)) ?_
    refine l_q (by decide) (p_move rfl).q ?_
    refine l_q (by decide) (p_extract rfl rfl).q ?_
    refine l_q (by decide) (p_extract rfl rfl).q ?_
    refine l_q (by decide) (p_assign rfl).q ?_
    refine l_q (by decide) (p_assign rfl).q ?_
    refine l_nil ?_
    refine c_seq ?_
    refine c_seq ?_
    refine c_draw mixed (by decide +kernel) ?_
    refine q_q (by decide) (p_move rfl).q ?_
    refine q_q (by decide) (p_not rfl).q ?_
    refine q_q (by decide) (p_move rfl).q ?_
    refine q_g (j := 2) rfl rfl (by decide) (p_move rfl).q ?_
    refine q_g (j := 2) rfl rfl (by decide) (p_move rfl).q ?_
    refine q_g (j := 2) rfl rfl (by decide) (((p_neqs rfl rfl)).to (u := .bool false) (by rw [decide_eq_false (fun h => h rfl)])).q ?_
    refine q_q (by decide) (p_pick rfl rfl).q ?_
    refine q_q (by decide) (p_move rfl).q ?_
    first | refine q_g (j := 7) rfl rfl (by decide) (r_loada Try.underlying30 rfl inf_30 rfl (by first | exact .fact (by repeat (first | exact List.Mem.head _ | apply List.Mem.tail)) | exact .own (by repeat (first | exact List.Mem.head _ | apply List.Mem.tail)) (by decide) (fun _ => rfl)) (by assumption)).q ?_ | refine q_g (j := 7) rfl rfl (by decide) (r_loadow Try.underlying30 rfl inf_30 rfl (by repeat (first | exact List.Mem.head _ | apply List.Mem.tail)) (by rfl)).q ?_ | refine q_g (j := 7) rfl rfl (by decide) (r_loadoa Try.underlying30 rfl inf_30 rfl (by repeat (first | exact List.Mem.head _ | apply List.Mem.tail)) (by rfl) (fun j u h => h)).q ?_
    refine q_g (j := 7) rfl rfl (by decide) (p_move rfl).q ?_
    refine q_g (j := 7) rfl rfl (by decide) (p_move rfl).q ?_
    refine q_g (j := 7) rfl rfl (by decide) (q_call call_19 rfl (fun w hs => hull2_ok a b (by omega) (by omega) w)) ?_
    refine q_g (j := 7) rfl rfl (by decide) (((neq_ed (e := Td.hull a b) (e' := Td.hull a b) rfl rfl)).to (u := .bool false) (by rw [decide_eq_false (fun h => h rfl)])).q ?_
    refine q_q (by decide) (p_pick rfl rfl).q ?_
    refine q_nil ?_
    refine c_false rfl ?_
    refine c_skip ?_
    refine c_seq ?_
    refine c_reg ?_
    refine l_q (by decide) (p_move rfl).q ?_
    first | refine l_q (by decide) (p_faddr (i := 0) 0 Try.underlying30 rfl inf_3 (by decide) rfl rfl).q ?_ | refine l_q (by decide) (p_faddro (i := 0) 0 Try.underlying30 rfl inf_3 (by decide) rfl rfl).q ?_
    first | refine l_q (by decide) (r_loado Try.underlying3 rfl rfl (by repeat (first | exact List.Mem.head _ | apply List.Mem.tail)) (by rfl)).q ?_ | refine l_q (by decide) (r_load1 Try.underlying3 rfl rfl (by first | exact .fact (by repeat (first | exact List.Mem.head _ | apply List.Mem.tail)) | exact .own (by repeat (first | exact List.Mem.head _ | apply List.Mem.tail)) (by decide) (fun _ => rfl)) (by first | assumption | rfl) (by rfl)).q ?_ | refine l_q (by decide) (r_loadf Try.underlying3 rfl rfl (by first | exact .fact (by repeat (first | exact List.Mem.head _ | apply List.Mem.tail)) | exact .own (by repeat (first | exact List.Mem.head _ | apply List.Mem.tail)) (by decide) (fun _ => rfl)) (by assumption) (by rfl)).q ?_
    first | refine l_q (by decide) (p_faddr (i := 0) 0 Try.underlying30 rfl inf_3 (by decide) rfl rfl).q ?_ | refine l_q (by decide) (p_faddro (i := 0) 0 Try.underlying30 rfl inf_3 (by decide) rfl rfl).q ?_
    first | refine l_q (by decide) (r_loado Try.underlying3 rfl rfl (by repeat (first | exact List.Mem.head _ | apply List.Mem.tail)) (by rfl)).q ?_ | refine l_q (by decide) (r_load1 Try.underlying3 rfl rfl (by first | exact .fact (by repeat (first | exact List.Mem.head _ | apply List.Mem.tail)) | exact .own (by repeat (first | exact List.Mem.head _ | apply List.Mem.tail)) (by decide) (fun _ => rfl)) (by first | assumption | rfl) (by rfl)).q ?_ | refine l_q (by decide) (r_loadf Try.underlying3 rfl rfl (by first | exact .fact (by repeat (first | exact List.Mem.head _ | apply List.Mem.tail)) | exact .own (by repeat (first | exact List.Mem.head _ | apply List.Mem.tail)) (by decide) (fun _ => rfl)) (by assumption) (by rfl)).q ?_
    first | refine l_q (by decide) (p_faddr (i := 1) 1 Try.underlying30 rfl inf_3 (by decide) rfl rfl).q ?_ | refine l_q (by decide) (p_faddro (i := 1) 1 Try.underlying30 rfl inf_3 (by decide) rfl rfl).q ?_
    first | refine l_q (by decide) (r_loado Try.underlying3 rfl rfl (by repeat (first | exact List.Mem.head _ | apply List.Mem.tail)) (by rfl)).q ?_ | refine l_q (by decide) (r_load1 Try.underlying3 rfl rfl (by first | exact .fact (by repeat (first | exact List.Mem.head _ | apply List.Mem.tail)) | exact .own (by repeat (first | exact List.Mem.head _ | apply List.Mem.tail)) (by decide) (fun _ => rfl)) (by first | assumption | rfl) (by rfl)).q ?_ | refine l_q (by decide) (r_loadf Try.underlying3 rfl rfl (by first | exact .fact (by repeat (first | exact List.Mem.head _ | apply List.Mem.tail)) | exact .own (by repeat (first | exact List.Mem.head _ | apply List.Mem.tail)) (by decide) (fun _ => rfl)) (by assumption) (by rfl)).q ?_
    first | refine l_q (by decide) (p_add rfl rfl rfl rfl (by show _ ≤ (9223372036854775807 : Nat); omega)).q ?_ | refine l_q (by decide) (p_addi rfl rfl (by show (-9223372036854775808 : Int) ≤ _; omega) (by show _ ≤ ((9223372036854775807 : Nat) : Int); omega)).q ?_
    first | refine l_q (by decide) (p_slice_lh Try.underlying9 rfl rfl rfl rfl rfl (by omega) (by omega)).q ?_ | refine l_q (by decide) (p_slice_lh Try.underlying9 rfl rfl rfl rfl rfl (by omega) (by simp; omega)).q ?_
    refine l_q (by decide) (p_assign rfl).q ?_
    refine l_nil ?_
    refine c_seq ?_
    refine c_draw mixed (by decide +kernel) ?_
    refine q_q (by decide) (p_move rfl).q ?_
    refine q_q (by decide) (p_len_str Try.underlying9 rfl).q ?_
    first | refine q_q (by decide) (p_eql (j := 0) rfl rfl rfl rfl).q ?_ | refine q_q (by decide) (p_eqli rfl rfl).q ?_
    refine q_q (by decide) (p_move rfl).q ?_
    first | refine q_splitd (t := 51) rfl (fun h51 => ?_) (fun h51 => ?_) | refine q_splitb (t := 51) rfl (fun h51 => ?_) (fun h51 => ?_)
    · skip
      refine q_off (j := 3) rfl rfl (by first | (simp; done) | (simp [undef]; done)) (by decide) ?_
      refine q_off (j := 3) rfl rfl (by first | (simp; done) | (simp [undef]; done)) (by decide) ?_
      refine q_off (j := 3) rfl rfl (by first | (simp; done) | (simp [undef]; done)) (by decide) ?_
      refine q_off (j := 3) rfl rfl (by first | (simp; done) | (simp [undef]; done)) (by decide) ?_
      refine q_q (by decide) (p_pick rfl rfl).q ?_
      refine q_q (by decide) (p_move rfl).q ?_
      refine q_off (j := 9) rfl rfl (by first | (simp; done) | (simp [undef]; done)) (by decide) ?_
      refine q_off (j := 9) rfl rfl (by first | (simp; done) | (simp [undef]; done)) (by decide) ?_
      refine q_off (j := 9) rfl rfl (by first | (simp; done) | (simp [undef]; done)) (by decide) ?_
      refine q_off (j := 9) rfl rfl (by first | (simp; done) | (simp [undef]; done)) (by decide) ?_
      refine q_off (j := 9) rfl rfl (by first | (simp; done) | (simp [undef]; done)) (by decide) ?_
      refine q_off (j := 9) rfl rfl (by first | (simp; done) | (simp [undef]; done)) (by decide) ?_
      refine q_off (j := 9) rfl rfl (by first | (simp; done) | (simp [undef]; done)) (by decide) ?_
      refine q_off (j := 16) rfl rfl (by first | (simp; done) | (simp [undef]; done)) (by decide) ?_
      refine q_off (j := 16) rfl rfl (by first | (simp; done) | (simp [undef]; done)) (by decide) ?_
      refine q_off (j := 16) rfl rfl (by first | (simp; done) | (simp [undef]; done)) (by decide) ?_
      refine q_off (j := 16) rfl rfl (by first | (simp; done) | (simp [undef]; done)) (by decide) ?_
      refine q_off (j := 16) rfl rfl (by first | (simp; done) | (simp [undef]; done)) (by decide) ?_
      refine q_off (j := 16) rfl rfl (by first | (simp; done) | (simp [undef]; done)) (by decide) ?_
      refine q_off (j := 16) rfl rfl (by first | (simp; done) | (simp [undef]; done)) (by decide) ?_
      refine q_off (j := 16) rfl rfl (by first | (simp; done) | (simp [undef]; done)) (by decide) ?_
      refine q_off (j := 16) rfl rfl (by first | (simp; done) | (simp [undef]; done)) (by decide) ?_
      refine q_off (j := 16) rfl rfl (by first | (simp; done) | (simp [undef]; done)) (by decide) ?_
      refine q_off (j := 16) rfl rfl (by first | (simp; done) | (simp [undef]; done)) (by decide) ?_
      refine q_off (j := 16) rfl rfl (by first | (simp; done) | (simp [undef]; done)) (by decide) ?_
      refine q_off (j := 16) rfl rfl (by first | (simp; done) | (simp [undef]; done)) (by decide) ?_
      refine q_off (j := 9) rfl rfl (by first | (simp; done) | (simp [undef]; done)) (by decide) ?_
      refine q_q (by decide) (p_pick rfl rfl).q ?_
      refine q_q (by decide) (p_assign rfl).q ?_
      refine q_nil ?_
      refine c_ret ?_
      refine c_ret1 rfl rfl (fun w hs => ?_)
      exact ⟨rfl, hs.ext⟩
    · skip
      first | refine q_g (j := 3) rfl rfl (by decide) (p_faddr (i := 2) 2 Try.underlying30 rfl inf_9 (by decide) rfl rfl).q ?_ | refine q_g (j := 3) rfl rfl (by decide) (p_faddro (i := 2) 2 Try.underlying30 rfl inf_9 (by decide) rfl rfl).q ?_
      first | refine q_g (j := 3) rfl rfl (by decide) (r_loado Try.underlying9 rfl rfl (by repeat (first | exact List.Mem.head _ | apply List.Mem.tail)) (by rfl)).q ?_ | refine q_g (j := 3) rfl rfl (by decide) (r_load1 Try.underlying9 rfl rfl (by first | exact .fact (by repeat (first | exact List.Mem.head _ | apply List.Mem.tail)) | exact .own (by repeat (first | exact List.Mem.head _ | apply List.Mem.tail)) (by decide) (fun _ => rfl)) (by first | assumption | rfl) (by rfl)).q ?_ | refine q_g (j := 3) rfl rfl (by decide) (r_loadf Try.underlying9 rfl rfl (by first | exact .fact (by repeat (first | exact List.Mem.head _ | apply List.Mem.tail)) | exact .own (by repeat (first | exact List.Mem.head _ | apply List.Mem.tail)) (by decide) (fun _ => rfl)) (by assumption) (by rfl)).q ?_
      refine q_g (j := 3) rfl rfl (by decide) (p_len_str Try.underlying9 rfl).q ?_
      first | refine q_g (j := 3) rfl rfl (by decide) (p_eql (j := 0) rfl rfl rfl rfl).q ?_ | refine q_g (j := 3) rfl rfl (by decide) (p_eqli rfl rfl).q ?_
      refine q_q (by decide) (p_pick rfl rfl).q ?_
      refine q_q (by decide) (p_move rfl).q ?_
      first | refine q_splitd (t := 57) rfl (fun h57 => ?_) (fun h57 => ?_) | refine q_splitb (t := 57) rfl (fun h57 => ?_) (fun h57 => ?_)
      · skip
        refine q_off (j := 9) rfl rfl (by first | (simp; done) | (simp [undef]; done)) (by decide) ?_
        refine q_off (j := 9) rfl rfl (by first | (simp; done) | (simp [undef]; done)) (by decide) ?_
        refine q_off (j := 9) rfl rfl (by first | (simp; done) | (simp [undef]; done)) (by decide) ?_
        refine q_off (j := 9) rfl rfl (by first | (simp; done) | (simp [undef]; done)) (by decide) ?_
        refine q_off (j := 9) rfl rfl (by first | (simp; done) | (simp [undef]; done)) (by decide) ?_
        refine q_off (j := 9) rfl rfl (by first | (simp; done) | (simp [undef]; done)) (by decide) ?_
        refine q_off (j := 9) rfl rfl (by first | (simp; done) | (simp [undef]; done)) (by decide) ?_
        refine q_off (j := 16) rfl rfl (by first | (simp; done) | (simp [undef]; done)) (by decide) ?_
        refine q_off (j := 16) rfl rfl (by first | (simp; done) | (simp [undef]; done)) (by decide) ?_
        refine q_off (j := 16) rfl rfl (by first | (simp; done) | (simp [undef]; done)) (by decide) ?_
        refine q_off (j := 16) rfl rfl (by first | (simp; done) | (simp [undef]; done)) (by decide) ?_
        refine q_off (j := 16) rfl rfl (by first | (simp; done) | (simp [undef]; done)) (by decide) ?_
        refine q_off (j := 16) rfl rfl (by first | (simp; done) | (simp [undef]; done)) (by decide) ?_
        refine q_off (j := 16) rfl rfl (by first | (simp; done) | (simp [undef]; done)) (by decide) ?_
        refine q_off (j := 16) rfl rfl (by first | (simp; done) | (simp [undef]; done)) (by decide) ?_
        refine q_off (j := 16) rfl rfl (by first | (simp; done) | (simp [undef]; done)) (by decide) ?_
        refine q_off (j := 16) rfl rfl (by first | (simp; done) | (simp [undef]; done)) (by decide) ?_
        refine q_off (j := 16) rfl rfl (by first | (simp; done) | (simp [undef]; done)) (by decide) ?_
        refine q_off (j := 16) rfl rfl (by first | (simp; done) | (simp [undef]; done)) (by decide) ?_
        refine q_off (j := 16) rfl rfl (by first | (simp; done) | (simp [undef]; done)) (by decide) ?_
        refine q_off (j := 9) rfl rfl (by first | (simp; done) | (simp [undef]; done)) (by decide) ?_
        refine q_q (by decide) (p_pick rfl rfl).q ?_
        refine q_q (by decide) (p_assign rfl).q ?_
        refine q_nil ?_
        refine c_ret ?_
        refine c_ret1 rfl rfl (fun w hs => ?_)
        exact ⟨rfl, hs.ext⟩
      · skip
        have hd0 : 0 < (Td.hull a b).del := by omega
        have hi0 : 0 < (Td.hull a b).ins.length := by omega
        obtain ⟨x, hx⟩ := at_some (l := (a.drop (Td.hull a b).at_).take ((Td.hull a b).at_ + (Td.hull a b).del - (Td.hull a b).at_)) (n := 0) (by omega)
        obtain ⟨y, hy⟩ := at_some (l := (Td.hull a b).ins) (n := 0) hi0
        obtain ⟨x2, hx2⟩ := at_some (l := (a.drop (Td.hull a b).at_).take ((Td.hull a b).at_ + (Td.hull a b).del - (Td.hull a b).at_)) (n := ((a.drop (Td.hull a b).at_).take ((Td.hull a b).at_ + (Td.hull a b).del - (Td.hull a b).at_)).length - 1) (by omega)
        obtain ⟨y2, hy2⟩ := at_some (l := (Td.hull a b).ins) (n := (Td.hull a b).ins.length - 1) (by omega)
        have hne1 : x ≠ y := Td.hull_first a b x y hi0 (by have h1 := hx; rw [dl_at a _ _ 0 hd0] at h1; exact h1) hy
        have hne2 : x2 ≠ y2 := Td.hull_last a b x2 y2 hd0 hi0 (by have h1 := hx2; rw [hdl, dl_at a _ _ _ (by omega), ← Nat.add_sub_assoc (by omega)] at h1; exact h1) hy2
        refine q_g (j := 9) rfl rfl (by decide) (p_move rfl).q ?_
        first | refine q_g (j := 9) rfl rfl (by decide) (p_index_str (j := 0) Try.underlying9 rfl rfl rfl (by assumption)).q ?_ | refine q_g (j := 9) rfl rfl (by decide) (p_index_str (j := 0) Try.underlying9 rfl rfl rfl (by simp; rfl)).q ?_
        first | refine q_g (j := 9) rfl rfl (by decide) (p_faddr (i := 2) 2 Try.underlying30 rfl inf_9 (by decide) rfl rfl).q ?_ | refine q_g (j := 9) rfl rfl (by decide) (p_faddro (i := 2) 2 Try.underlying30 rfl inf_9 (by decide) rfl rfl).q ?_
        first | refine q_g (j := 9) rfl rfl (by decide) (r_loado Try.underlying9 rfl rfl (by repeat (first | exact List.Mem.head _ | apply List.Mem.tail)) (by rfl)).q ?_ | refine q_g (j := 9) rfl rfl (by decide) (r_load1 Try.underlying9 rfl rfl (by first | exact .fact (by repeat (first | exact List.Mem.head _ | apply List.Mem.tail)) | exact .own (by repeat (first | exact List.Mem.head _ | apply List.Mem.tail)) (by decide) (fun _ => rfl)) (by first | assumption | rfl) (by rfl)).q ?_ | refine q_g (j := 9) rfl rfl (by decide) (r_loadf Try.underlying9 rfl rfl (by first | exact .fact (by repeat (first | exact List.Mem.head _ | apply List.Mem.tail)) | exact .own (by repeat (first | exact List.Mem.head _ | apply List.Mem.tail)) (by decide) (fun _ => rfl)) (by assumption) (by rfl)).q ?_
        first | refine q_g (j := 9) rfl rfl (by decide) (p_index_str (j := 0) Try.underlying9 rfl rfl rfl (by assumption)).q ?_ | refine q_g (j := 9) rfl rfl (by decide) (p_index_str (j := 0) Try.underlying9 rfl rfl rfl (by simp; rfl)).q ?_
        first | refine q_g (j := 9) rfl rfl (by decide) (((p_neq rfl rfl rfl rfl)).to (u := .bool true) (by rw [decide_eq_true (toNat_ne hne1)])).q ?_ | refine q_g (j := 9) rfl rfl (by decide) (((p_neqi rfl rfl)).to (u := .bool true) (by rw [decide_eq_true (toNat_ne hne1)])).q ?_
        refine q_g (j := 9) rfl rfl (by decide) (p_move rfl).q ?_
        refine q_g (j := 16) rfl rfl (by decide) (p_move rfl).q ?_
        refine q_g (j := 16) rfl rfl (by decide) (p_move rfl).q ?_
        refine q_g (j := 16) rfl rfl (by decide) (p_len_str Try.underlying9 rfl).q ?_
        first | refine q_g (j := 16) rfl rfl (by decide) (p_sub (j := 1) rfl rfl rfl rfl (by omega) (by show _ ≤ (9223372036854775807 : Nat); omega)).q ?_ | refine q_g (j := 16) rfl rfl (by decide) (p_subi rfl rfl (by show (-9223372036854775808 : Int) ≤ _; omega) (by show _ ≤ ((9223372036854775807 : Nat) : Int); omega)).q ?_
        first | refine q_g (j := 16) rfl rfl (by decide) (p_index_str Try.underlying9 rfl rfl rfl (by assumption)).q ?_ | refine q_g (j := 16) rfl rfl (by decide) (p_index_str Try.underlying9 rfl rfl rfl (by simp; rfl)).q ?_
        first | refine q_g (j := 16) rfl rfl (by decide) (p_faddr (i := 2) 2 Try.underlying30 rfl inf_9 (by decide) rfl rfl).q ?_ | refine q_g (j := 16) rfl rfl (by decide) (p_faddro (i := 2) 2 Try.underlying30 rfl inf_9 (by decide) rfl rfl).q ?_
        first | refine q_g (j := 16) rfl rfl (by decide) (r_loado Try.underlying9 rfl rfl (by repeat (first | exact List.Mem.head _ | apply List.Mem.tail)) (by rfl)).q ?_ | refine q_g (j := 16) rfl rfl (by decide) (r_load1 Try.underlying9 rfl rfl (by first | exact .fact (by repeat (first | exact List.Mem.head _ | apply List.Mem.tail)) | exact .own (by repeat (first | exact List.Mem.head _ | apply List.Mem.tail)) (by decide) (fun _ => rfl)) (by first | assumption | rfl) (by rfl)).q ?_ | refine q_g (j := 16) rfl rfl (by decide) (r_loadf Try.underlying9 rfl rfl (by first | exact .fact (by repeat (first | exact List.Mem.head _ | apply List.Mem.tail)) | exact .own (by repeat (first | exact List.Mem.head _ | apply List.Mem.tail)) (by decide) (fun _ => rfl)) (by assumption) (by rfl)).q ?_
        first | refine q_g (j := 16) rfl rfl (by decide) (p_faddr (i := 2) 2 Try.underlying30 rfl inf_9 (by decide) rfl rfl).q ?_ | refine q_g (j := 16) rfl rfl (by decide) (p_faddro (i := 2) 2 Try.underlying30 rfl inf_9 (by decide) rfl rfl).q ?_
        first | refine q_g (j := 16) rfl rfl (by decide) (r_loado Try.underlying9 rfl rfl (by repeat (first | exact List.Mem.head _ | apply List.Mem.tail)) (by rfl)).q ?_ | refine q_g (j := 16) rfl rfl (by decide) (r_load1 Try.underlying9 rfl rfl (by first | exact .fact (by repeat (first | exact List.Mem.head _ | apply List.Mem.tail)) | exact .own (by repeat (first | exact List.Mem.head _ | apply List.Mem.tail)) (by decide) (fun _ => rfl)) (by first | assumption | rfl) (by rfl)).q ?_ | refine q_g (j := 16) rfl rfl (by decide) (r_loadf Try.underlying9 rfl rfl (by first | exact .fact (by repeat (first | exact List.Mem.head _ | apply List.Mem.tail)) | exact .own (by repeat (first | exact List.Mem.head _ | apply List.Mem.tail)) (by decide) (fun _ => rfl)) (by assumption) (by rfl)).q ?_
        refine q_g (j := 16) rfl rfl (by decide) (p_len_str Try.underlying9 rfl).q ?_
        first | refine q_g (j := 16) rfl rfl (by decide) (p_sub (j := 1) rfl rfl rfl rfl (by omega) (by show _ ≤ (9223372036854775807 : Nat); omega)).q ?_ | refine q_g (j := 16) rfl rfl (by decide) (p_subi rfl rfl (by show (-9223372036854775808 : Int) ≤ _; omega) (by show _ ≤ ((9223372036854775807 : Nat) : Int); omega)).q ?_
        first | refine q_g (j := 16) rfl rfl (by decide) (p_index_str Try.underlying9 rfl rfl rfl (by assumption)).q ?_ | refine q_g (j := 16) rfl rfl (by decide) (p_index_str Try.underlying9 rfl rfl rfl (by simp; rfl)).q ?_
        first | refine q_g (j := 16) rfl rfl (by decide) (((p_neq rfl rfl rfl rfl)).to (u := .bool true) (by rw [decide_eq_true (toNat_ne hne2)])).q ?_ | refine q_g (j := 16) rfl rfl (by decide) (((p_neqi rfl rfl)).to (u := .bool true) (by rw [decide_eq_true (toNat_ne hne2)])).q ?_
        refine q_g (j := 9) rfl rfl (by decide) (p_pick rfl rfl).q ?_
        refine q_q (by decide) (p_pick rfl rfl).q ?_
        refine q_q (by decide) (p_assign rfl).q ?_
        refine q_nil ?_
        refine c_ret ?_
        refine c_ret1 rfl rfl (fun w hs => ?_)
        exact ⟨rfl, hs.ext⟩

theorem one_law (a : List UInt8) (x y : Int) (s : List UInt8) (hl : a.length ≤ 140737488351232) (hsl : s.length ≤ 140737488351232) (w : World) :
    Calls Try.prog 9 #[str a, .agg #[.int .i64 x, .int .i64 y, str s]] w (Ret fun v w' => v = .bool true ∧ Ext [] w w') := by
  refine calls_fx (l := [str a, .agg #[.int .i64 x, .int .i64 y, str s]]) Try.func9 rfl Try.ntmps9 (Nat.le_of_ble_eq_true rfl) (St.start w) ?_
  refine c_seq ?_
  refine c_reg ?_
  refine l_box (by decide) rfl _ rfl (fun b3 => ?_)
  refine l_q (by decide) (p_assign rfl).q ?_
  refine l_nil ?_
  refine c_seq ?_
  refine c_seq ?_
  refine c_reg ?_
  refine l_q (by decide) (q_call call_10 rfl (fun w hs => awake_ok w)) ?_
  refine l_q (by decide) (p_not rfl).q ?_
  refine l_nil ?_
  refine c_false rfl ?_
  refine c_skip ?_
  refine c_seq ?_
  refine c_reg ?_
  refine l_q (by decide) (p_move rfl).q ?_
  first | refine l_q (by decide) (r_loada Try.underlying30 rfl inf_30 rfl (by first | exact .fact (by repeat (first | exact List.Mem.head _ | apply List.Mem.tail)) | exact .own (by repeat (first | exact List.Mem.head _ | apply List.Mem.tail)) (by decide) (fun _ => rfl)) (by assumption)).q ?_ | refine l_q (by decide) (r_loadow Try.underlying30 rfl inf_30 rfl (by repeat (first | exact List.Mem.head _ | apply List.Mem.tail)) (by rfl)).q ?_ | refine l_q (by decide) (r_loadoa Try.underlying30 rfl inf_30 rfl (by repeat (first | exact List.Mem.head _ | apply List.Mem.tail)) (by rfl) (fun j u h => h)).q ?_
  refine l_call (X := AppR a x y s) (fun r => .tuple #[str r.1.1, .int .i64 r.1.2]) (fun _ _ => True) (by decide) call_20 rfl (fun w hs => apply_as a x y s (by omega) (by omega) w) (fun r => ?_)
  refine l_q (by decide) (p_move rfl).q ?_
  refine l_q (by decide) (p_extract rfl rfl).q ?_
  refine l_q (by decide) (p_extract rfl rfl).q ?_
  refine l_q (by decide) (p_assign rfl).q ?_
  refine l_q (by decide) (p_assign rfl).q ?_
  refine l_nil ?_
  refine c_seq ?_
  refine c_seq ?_
  refine c_meetn (S := Unit) (fun zs => True) (fun zs => [(0, str a), (3, .pointer (some ⟨b3, 0, none⟩)), (5, str r.1.1), (23, .bool (decide (r.1.2 ≠ 0 ∨ ¬ (a.length ≤ 80 ∧ r.1.1.length ≤ 80))))]) (fun zs => [iCells b3 30 [.int .i64 x, .int .i64 y, str s]]) (fun zs => [fun _ => True]) ?_ ?_
  · skip
    refine c_reg ?_
    refine l_q (by decide) (p_move rfl).q ?_
    first | refine l_q (by decide) (p_neq (j := 0) rfl rfl rfl rfl).q ?_ | refine l_q (by decide) (p_neqi rfl rfl).q ?_
    refine l_q (by decide) (p_move rfl).q ?_
    first | refine l_splitd (t := 18) rfl (fun h18 => ?_) (fun h18 => ?_) | refine l_splitb (t := 18) rfl (fun h18 => ?_) (fun h18 => ?_)
    · skip
      refine l_off (j := 2) rfl rfl (by first | (simp; done) | (simp [undef]; done)) (by decide) ?_
      refine l_off (j := 2) rfl rfl (by first | (simp; done) | (simp [undef]; done)) (by decide) ?_
      refine l_off (j := 2) rfl rfl (by first | (simp; done) | (simp [undef]; done)) (by decide) ?_
      refine l_off (j := 2) rfl rfl (by first | (simp; done) | (simp [undef]; done)) (by decide) ?_
      refine l_q (by decide) (p_pick rfl rfl).q ?_
      refine l_nil ?_
      refine c_join (()) ?inv ?sub ?perm ?facts
      case sub => exact ⟨rfl, rfl, rfl, (by first | rfl | exact congrArg (fun b => some (Value.bool b)) (decide_eq_true (by omega)).symm | exact congrArg (fun b => some (Value.bool b)) (decide_eq_false (by omega)).symm | exact congrArg (fun b => some (Value.bool b)) (decide_eq_decide.2 (by omega))), trivial⟩
      case perm =>
        exact .refl _
      case facts => exact fun _ h => h
      case inv =>
        trivial
    · skip
      refine l_g (j := 2) rfl rfl (by decide) (p_move rfl).q ?_
      refine l_g (j := 2) rfl rfl (by decide) (p_move rfl).q ?_
      refine l_g (j := 2) rfl rfl (by decide) (q_call call_11 rfl (fun w hs => few_ok a r.1.1 w)) ?_
      first | refine l_g (j := 2) rfl rfl (by decide) (p_notd rfl).q ?_ | refine l_g (j := 2) rfl rfl (by decide) (p_not rfl).q ?_
      refine l_q (by decide) (p_pick rfl rfl).q ?_
      refine l_nil ?_
      refine c_join (()) ?inv ?sub ?perm ?facts
      case sub => exact ⟨rfl, rfl, rfl, (by first | rfl | exact congrArg (fun b => some (Value.bool b)) (decide_eq_true (by omega)).symm | exact congrArg (fun b => some (Value.bool b)) (decide_eq_false (by omega)).symm | exact congrArg (fun b => some (Value.bool b)) (decide_eq_decide.2 (by omega))), trivial⟩
      case perm =>
        exact .refl _
      case facts => exact fun _ h => h
      case inv =>
        trivial
  rintro uu hmeet
  show Cont _ _ _ _ [(0, str a), (3, .pointer (some ⟨b3, 0, none⟩)), (5, str r.1.1), (23, .bool (decide (r.1.2 ≠ 0 ∨ ¬ (a.length ≤ 80 ∧ r.1.1.length ≤ 80))))] ([iCells b3 30 [.int .i64 x, .int .i64 y, str s]]) [fun _ => True]
  first | refine c_dec rfl (fun h23 => ?_) (fun h23 => ?_) | refine c_cond rfl (fun h23 => ?_) (fun h23 => ?_)
  · skip
    refine c_seq ?_
    refine c_reg ?_
    refine l_q (by decide) (p_assign rfl).q ?_
    refine l_nil ?_
    refine c_ret ?_
    refine c_ret1 rfl rfl (fun w hs => ?_)
    exact ⟨rfl, hs.ext⟩
  · skip
    have hfit : fitsP a x y := Classical.byContradiction fun h => by
      have := r.2.2 h
      rw [this] at h23; exact h23 (.inl (by decide))
    obtain ⟨b, hb⟩ : ∃ b, b = r.1.1 := ⟨_, rfl⟩
    have hbr := congrArg Prod.fst (r.2.1 hfit)
    simp only at hbr
    rw [← hb] at h23 hbr ⊢
    obtain ⟨n, rfl⟩ := Int.eq_ofNat_of_zero_le hfit.1
    obtain ⟨m, rfl⟩ := Int.eq_ofNat_of_zero_le hfit.2.2.1
    unfold fitsP at hfit
    simp only [Int.toNat_natCast] at hbr
    have hone := Td.one_edit (a.take n) ((a.drop n).take m) s (a.drop (n + m))
    rw [show a.take n ++ ((a.drop n).take m ++ a.drop (n + m)) = a by rw [← List.drop_drop, List.take_append_drop, List.take_append_drop], show a.take n ++ (s ++ a.drop (n + m)) = b by rw [hbr, List.append_assoc], show ((a.drop n).take m).length = m by simp only [List.length_take, List.length_drop]; omega] at hone
    obtain ⟨ho1, ho2, ho3, ho4⟩ := hone
    have hHD := Td.hull_D a b
    have hf : a.length ≤ 80 ∧ b.length ≤ 80 := Classical.byContradiction fun h => h23 (.inr h)
    refine c_skip ?_
    refine c_seq ?_
    refine c_reg ?_
    refine l_q (by decide) (p_move rfl).q ?_
    refine l_q (by decide) (p_move rfl).q ?_
    refine l_q (by decide) (q_call call_18 rfl (fun w hs => hull_ok a b (by omega) (by omega) w)) ?_
    refine l_alloc (by decide) inf_30 _ rfl (fun b7 => ?_)
    first | (refine l_storew inf_30 rfl rfl rfl rfl rfl ?_) | (refine l_perm (front1 _ _ _) ?_; refine l_storew inf_30 rfl rfl rfl rfl rfl ?_) | (refine l_perm (front2 _ _ _ _) ?_; refine l_storew inf_30 rfl rfl rfl rfl rfl ?_) | (refine l_perm (front3 _ _ _ _ _) ?_; refine l_storew inf_30 rfl rfl rfl rfl rfl ?_) | (refine l_perm (front4 _ _ _ _ _ _) ?_; refine l_storew inf_30 rfl rfl rfl rfl rfl ?_) | (refine l_storea inf_30 rfl rfl rfl rfl (by decide) ?_) | (refine l_perm (front1 _ _ _) ?_; refine l_storea inf_30 rfl rfl rfl rfl (by decide) ?_) | (refine l_perm (front2 _ _ _ _) ?_; refine l_storea inf_30 rfl rfl rfl rfl (by decide) ?_)
    refine l_nil ?_
    refine c_seq ?_
    refine c_draw mixed (by decide +kernel) ?_
    refine q_q (by decide) (p_move rfl).q ?_
    refine q_q (by decide) (p_move rfl).q ?_
    refine q_q (by decide) (q_call call_12 rfl (fun w hs => distance_ok a b (by omega) (by omega) w)) ?_
    first | refine q_q (by decide) (p_faddr (i := 1) 1 Try.underlying30 rfl inf_3 (by decide) rfl rfl).q ?_ | refine q_q (by decide) (p_faddro (i := 1) 1 Try.underlying30 rfl inf_3 (by decide) rfl rfl).q ?_
    first | refine q_q (by decide) (r_loado Try.underlying3 rfl rfl (by repeat (first | exact List.Mem.head _ | apply List.Mem.tail)) (by rfl)).q ?_ | refine q_q (by decide) (r_load1 Try.underlying3 rfl rfl (by first | exact .fact (by repeat (first | exact List.Mem.head _ | apply List.Mem.tail)) | exact .own (by repeat (first | exact List.Mem.head _ | apply List.Mem.tail)) (by decide) (fun _ => rfl)) (by first | assumption | rfl) (by rfl)).q ?_ | refine q_q (by decide) (r_loadf Try.underlying3 rfl rfl (by first | exact .fact (by repeat (first | exact List.Mem.head _ | apply List.Mem.tail)) | exact .own (by repeat (first | exact List.Mem.head _ | apply List.Mem.tail)) (by decide) (fun _ => rfl)) (by assumption) (by rfl)).q ?_
    first | refine q_q (by decide) (p_faddr (i := 2) 2 Try.underlying30 rfl inf_9 (by decide) rfl rfl).q ?_ | refine q_q (by decide) (p_faddro (i := 2) 2 Try.underlying30 rfl inf_9 (by decide) rfl rfl).q ?_
    first | refine q_q (by decide) (r_loado Try.underlying9 rfl rfl (by repeat (first | exact List.Mem.head _ | apply List.Mem.tail)) (by rfl)).q ?_ | refine q_q (by decide) (r_load1 Try.underlying9 rfl rfl (by first | exact .fact (by repeat (first | exact List.Mem.head _ | apply List.Mem.tail)) | exact .own (by repeat (first | exact List.Mem.head _ | apply List.Mem.tail)) (by decide) (fun _ => rfl)) (by first | assumption | rfl) (by rfl)).q ?_ | refine q_q (by decide) (r_loadf Try.underlying9 rfl rfl (by first | exact .fact (by repeat (first | exact List.Mem.head _ | apply List.Mem.tail)) | exact .own (by repeat (first | exact List.Mem.head _ | apply List.Mem.tail)) (by decide) (fun _ => rfl)) (by assumption) (by rfl)).q ?_
    refine q_q (by decide) (p_len_str Try.underlying9 rfl).q ?_
    first | refine q_q (by decide) (p_add rfl rfl rfl rfl (by show _ ≤ (9223372036854775807 : Nat); omega)).q ?_ | refine q_q (by decide) (p_addi rfl rfl (by show (-9223372036854775808 : Int) ≤ _; omega) (by show _ ≤ ((9223372036854775807 : Nat) : Int); omega)).q ?_
    first | refine q_q (by decide) (((p_leq rfl rfl rfl rfl)).to (u := .bool true) (by rw [decide_eq_true (by omega)])).q ?_ | refine q_q (by decide) (((p_leqi rfl rfl)).to (u := .bool true) (by rw [decide_eq_true (by omega)])).q ?_
    refine q_q (by decide) (p_move rfl).q ?_
    first | refine q_g (j := 10) rfl rfl (by decide) (p_faddr (i := 1) 1 Try.underlying30 rfl inf_3 (by decide) rfl rfl).q ?_ | refine q_g (j := 10) rfl rfl (by decide) (p_faddro (i := 1) 1 Try.underlying30 rfl inf_3 (by decide) rfl rfl).q ?_
    first | refine q_g (j := 10) rfl rfl (by decide) (r_loado Try.underlying3 rfl rfl (by repeat (first | exact List.Mem.head _ | apply List.Mem.tail)) (by rfl)).q ?_ | refine q_g (j := 10) rfl rfl (by decide) (r_load1 Try.underlying3 rfl rfl (by first | exact .fact (by repeat (first | exact List.Mem.head _ | apply List.Mem.tail)) | exact .own (by repeat (first | exact List.Mem.head _ | apply List.Mem.tail)) (by decide) (fun _ => rfl)) (by first | assumption | rfl) (by rfl)).q ?_ | refine q_g (j := 10) rfl rfl (by decide) (r_loadf Try.underlying3 rfl rfl (by first | exact .fact (by repeat (first | exact List.Mem.head _ | apply List.Mem.tail)) | exact .own (by repeat (first | exact List.Mem.head _ | apply List.Mem.tail)) (by decide) (fun _ => rfl)) (by assumption) (by rfl)).q ?_
    first | refine q_g (j := 10) rfl rfl (by decide) (p_faddr (i := 2) 2 Try.underlying30 rfl inf_9 (by decide) rfl rfl).q ?_ | refine q_g (j := 10) rfl rfl (by decide) (p_faddro (i := 2) 2 Try.underlying30 rfl inf_9 (by decide) rfl rfl).q ?_
    first | refine q_g (j := 10) rfl rfl (by decide) (r_loado Try.underlying9 rfl rfl (by repeat (first | exact List.Mem.head _ | apply List.Mem.tail)) (by rfl)).q ?_ | refine q_g (j := 10) rfl rfl (by decide) (r_load1 Try.underlying9 rfl rfl (by first | exact .fact (by repeat (first | exact List.Mem.head _ | apply List.Mem.tail)) | exact .own (by repeat (first | exact List.Mem.head _ | apply List.Mem.tail)) (by decide) (fun _ => rfl)) (by first | assumption | rfl) (by rfl)).q ?_ | refine q_g (j := 10) rfl rfl (by decide) (r_loadf Try.underlying9 rfl rfl (by first | exact .fact (by repeat (first | exact List.Mem.head _ | apply List.Mem.tail)) | exact .own (by repeat (first | exact List.Mem.head _ | apply List.Mem.tail)) (by decide) (fun _ => rfl)) (by assumption) (by rfl)).q ?_
    refine q_g (j := 10) rfl rfl (by decide) (p_len_str Try.underlying9 rfl).q ?_
    first | refine q_g (j := 10) rfl rfl (by decide) (p_add rfl rfl rfl rfl (by show _ ≤ (9223372036854775807 : Nat); omega)).q ?_ | refine q_g (j := 10) rfl rfl (by decide) (p_addi rfl rfl (by show (-9223372036854775808 : Int) ≤ _; omega) (by show _ ≤ ((9223372036854775807 : Nat) : Int); omega)).q ?_
    refine q_g (j := 10) rfl rfl (by decide) (p_move rfl).q ?_
    refine q_g (j := 10) rfl rfl (by decide) (p_move rfl).q ?_
    refine q_g (j := 10) rfl rfl (by decide) (q_call call_12 rfl (fun w hs => distance_ok a b (by omega) (by omega) w)) ?_
    first | refine q_g (j := 10) rfl rfl (by decide) (((p_geq rfl rfl rfl rfl)).to (u := .bool true) (by rw [decide_eq_true (by omega)])).q ?_ | refine q_g (j := 10) rfl rfl (by decide) (((p_geqi rfl rfl)).to (u := .bool true) (by rw [decide_eq_true (by omega)])).q ?_
    refine q_q (by decide) (p_pick rfl rfl).q ?_
    refine q_q (by decide) (p_move rfl).q ?_
    first | refine q_g (j := 22) rfl rfl (by decide) (p_faddr (i := 1) 1 Try.underlying30 rfl inf_3 (by decide) rfl rfl).q ?_ | refine q_g (j := 22) rfl rfl (by decide) (p_faddro (i := 1) 1 Try.underlying30 rfl inf_3 (by decide) rfl rfl).q ?_
    first | refine q_g (j := 22) rfl rfl (by decide) (r_loado Try.underlying3 rfl rfl (by repeat (first | exact List.Mem.head _ | apply List.Mem.tail)) (by rfl)).q ?_ | refine q_g (j := 22) rfl rfl (by decide) (r_load1 Try.underlying3 rfl rfl (by first | exact .fact (by repeat (first | exact List.Mem.head _ | apply List.Mem.tail)) | exact .own (by repeat (first | exact List.Mem.head _ | apply List.Mem.tail)) (by decide) (fun _ => rfl)) (by first | assumption | rfl) (by rfl)).q ?_ | refine q_g (j := 22) rfl rfl (by decide) (r_loadf Try.underlying3 rfl rfl (by first | exact .fact (by repeat (first | exact List.Mem.head _ | apply List.Mem.tail)) | exact .own (by repeat (first | exact List.Mem.head _ | apply List.Mem.tail)) (by decide) (fun _ => rfl)) (by assumption) (by rfl)).q ?_
    first | refine q_g (j := 22) rfl rfl (by decide) (p_faddr (i := 2) 2 Try.underlying30 rfl inf_9 (by decide) rfl rfl).q ?_ | refine q_g (j := 22) rfl rfl (by decide) (p_faddro (i := 2) 2 Try.underlying30 rfl inf_9 (by decide) rfl rfl).q ?_
    first | refine q_g (j := 22) rfl rfl (by decide) (r_loado Try.underlying9 rfl rfl (by repeat (first | exact List.Mem.head _ | apply List.Mem.tail)) (by rfl)).q ?_ | refine q_g (j := 22) rfl rfl (by decide) (r_load1 Try.underlying9 rfl rfl (by first | exact .fact (by repeat (first | exact List.Mem.head _ | apply List.Mem.tail)) | exact .own (by repeat (first | exact List.Mem.head _ | apply List.Mem.tail)) (by decide) (fun _ => rfl)) (by first | assumption | rfl) (by rfl)).q ?_ | refine q_g (j := 22) rfl rfl (by decide) (r_loadf Try.underlying9 rfl rfl (by first | exact .fact (by repeat (first | exact List.Mem.head _ | apply List.Mem.tail)) | exact .own (by repeat (first | exact List.Mem.head _ | apply List.Mem.tail)) (by decide) (fun _ => rfl)) (by assumption) (by rfl)).q ?_
    refine q_g (j := 22) rfl rfl (by decide) (p_len_str Try.underlying9 rfl).q ?_
    first | refine q_g (j := 22) rfl rfl (by decide) (p_sub rfl rfl rfl rfl (by omega) (by show _ ≤ (9223372036854775807 : Nat); omega)).q ?_ | refine q_g (j := 22) rfl rfl (by decide) (p_subi rfl rfl (by show (-9223372036854775808 : Int) ≤ _; omega) (by show _ ≤ ((9223372036854775807 : Nat) : Int); omega)).q ?_
    first | refine q_g (j := 22) rfl rfl (by decide) (p_faddr (i := 1) 1 Try.underlying30 rfl inf_3 (by decide) rfl rfl).q ?_ | refine q_g (j := 22) rfl rfl (by decide) (p_faddro (i := 1) 1 Try.underlying30 rfl inf_3 (by decide) rfl rfl).q ?_
    first | refine q_g (j := 22) rfl rfl (by decide) (r_loado Try.underlying3 rfl rfl (by repeat (first | exact List.Mem.head _ | apply List.Mem.tail)) (by rfl)).q ?_ | refine q_g (j := 22) rfl rfl (by decide) (r_load1 Try.underlying3 rfl rfl (by first | exact .fact (by repeat (first | exact List.Mem.head _ | apply List.Mem.tail)) | exact .own (by repeat (first | exact List.Mem.head _ | apply List.Mem.tail)) (by decide) (fun _ => rfl)) (by first | assumption | rfl) (by rfl)).q ?_ | refine q_g (j := 22) rfl rfl (by decide) (r_loadf Try.underlying3 rfl rfl (by first | exact .fact (by repeat (first | exact List.Mem.head _ | apply List.Mem.tail)) | exact .own (by repeat (first | exact List.Mem.head _ | apply List.Mem.tail)) (by decide) (fun _ => rfl)) (by assumption) (by rfl)).q ?_
    first | refine q_g (j := 22) rfl rfl (by decide) (p_faddr (i := 2) 2 Try.underlying30 rfl inf_9 (by decide) rfl rfl).q ?_ | refine q_g (j := 22) rfl rfl (by decide) (p_faddro (i := 2) 2 Try.underlying30 rfl inf_9 (by decide) rfl rfl).q ?_
    first | refine q_g (j := 22) rfl rfl (by decide) (r_loado Try.underlying9 rfl rfl (by repeat (first | exact List.Mem.head _ | apply List.Mem.tail)) (by rfl)).q ?_ | refine q_g (j := 22) rfl rfl (by decide) (r_load1 Try.underlying9 rfl rfl (by first | exact .fact (by repeat (first | exact List.Mem.head _ | apply List.Mem.tail)) | exact .own (by repeat (first | exact List.Mem.head _ | apply List.Mem.tail)) (by decide) (fun _ => rfl)) (by first | assumption | rfl) (by rfl)).q ?_ | refine q_g (j := 22) rfl rfl (by decide) (r_loadf Try.underlying9 rfl rfl (by first | exact .fact (by repeat (first | exact List.Mem.head _ | apply List.Mem.tail)) | exact .own (by repeat (first | exact List.Mem.head _ | apply List.Mem.tail)) (by decide) (fun _ => rfl)) (by assumption) (by rfl)).q ?_
    refine q_g (j := 22) rfl rfl (by decide) (p_len_str Try.underlying9 rfl).q ?_
    first | refine q_g (j := 22) rfl rfl (by decide) (p_sub rfl rfl rfl rfl (by omega) (by show _ ≤ (9223372036854775807 : Nat); omega)).q ?_ | refine q_g (j := 22) rfl rfl (by decide) (p_subi rfl rfl (by show (-9223372036854775808 : Int) ≤ _; omega) (by show _ ≤ ((9223372036854775807 : Nat) : Int); omega)).q ?_
    first | refine q_g (j := 22) rfl rfl (by decide) (((p_eql rfl rfl rfl rfl)).to (u := .bool true) (by rw [decide_eq_true (by omega)])).q ?_ | refine q_g (j := 22) rfl rfl (by decide) (((p_eqli rfl rfl)).to (u := .bool true) (by rw [decide_eq_true (by omega)])).q ?_
    refine q_q (by decide) (p_pick rfl rfl).q ?_
    refine q_q (by decide) (p_move rfl).q ?_
    first | refine q_g (j := 37) rfl rfl (by decide) (p_faddr (i := 1) 1 Try.underlying30 rfl inf_3 (by decide) rfl rfl).q ?_ | refine q_g (j := 37) rfl rfl (by decide) (p_faddro (i := 1) 1 Try.underlying30 rfl inf_3 (by decide) rfl rfl).q ?_
    first | refine q_g (j := 37) rfl rfl (by decide) (r_loado Try.underlying3 rfl rfl (by repeat (first | exact List.Mem.head _ | apply List.Mem.tail)) (by rfl)).q ?_ | refine q_g (j := 37) rfl rfl (by decide) (r_load1 Try.underlying3 rfl rfl (by first | exact .fact (by repeat (first | exact List.Mem.head _ | apply List.Mem.tail)) | exact .own (by repeat (first | exact List.Mem.head _ | apply List.Mem.tail)) (by decide) (fun _ => rfl)) (by first | assumption | rfl) (by rfl)).q ?_ | refine q_g (j := 37) rfl rfl (by decide) (r_loadf Try.underlying3 rfl rfl (by first | exact .fact (by repeat (first | exact List.Mem.head _ | apply List.Mem.tail)) | exact .own (by repeat (first | exact List.Mem.head _ | apply List.Mem.tail)) (by decide) (fun _ => rfl)) (by assumption) (by rfl)).q ?_
    first | refine q_g (j := 37) rfl rfl (by decide) (p_faddr (i := 1) 1 Try.underlying30 rfl inf_3 (by decide) rfl rfl).q ?_ | refine q_g (j := 37) rfl rfl (by decide) (p_faddro (i := 1) 1 Try.underlying30 rfl inf_3 (by decide) rfl rfl).q ?_
    first | refine q_g (j := 37) rfl rfl (by decide) (r_loado Try.underlying3 rfl rfl (by repeat (first | exact List.Mem.head _ | apply List.Mem.tail)) (by rfl)).q ?_ | refine q_g (j := 37) rfl rfl (by decide) (r_load1 Try.underlying3 rfl rfl (by first | exact .fact (by repeat (first | exact List.Mem.head _ | apply List.Mem.tail)) | exact .own (by repeat (first | exact List.Mem.head _ | apply List.Mem.tail)) (by decide) (fun _ => rfl)) (by first | assumption | rfl) (by rfl)).q ?_ | refine q_g (j := 37) rfl rfl (by decide) (r_loadf Try.underlying3 rfl rfl (by first | exact .fact (by repeat (first | exact List.Mem.head _ | apply List.Mem.tail)) | exact .own (by repeat (first | exact List.Mem.head _ | apply List.Mem.tail)) (by decide) (fun _ => rfl)) (by assumption) (by rfl)).q ?_
    first | refine q_g (j := 37) rfl rfl (by decide) (((p_leq rfl rfl rfl rfl)).to (u := .bool true) (by rw [decide_eq_true (by omega)])).q ?_ | refine q_g (j := 37) rfl rfl (by decide) (((p_leqi rfl rfl)).to (u := .bool true) (by rw [decide_eq_true (by omega)])).q ?_
    refine q_q (by decide) (p_pick rfl rfl).q ?_
    refine q_q (by decide) (p_move rfl).q ?_
    first | refine q_g (j := 44) rfl rfl (by decide) (p_faddr (i := 2) 2 Try.underlying30 rfl inf_9 (by decide) rfl rfl).q ?_ | refine q_g (j := 44) rfl rfl (by decide) (p_faddro (i := 2) 2 Try.underlying30 rfl inf_9 (by decide) rfl rfl).q ?_
    first | refine q_g (j := 44) rfl rfl (by decide) (r_loado Try.underlying9 rfl rfl (by repeat (first | exact List.Mem.head _ | apply List.Mem.tail)) (by rfl)).q ?_ | refine q_g (j := 44) rfl rfl (by decide) (r_load1 Try.underlying9 rfl rfl (by first | exact .fact (by repeat (first | exact List.Mem.head _ | apply List.Mem.tail)) | exact .own (by repeat (first | exact List.Mem.head _ | apply List.Mem.tail)) (by decide) (fun _ => rfl)) (by first | assumption | rfl) (by rfl)).q ?_ | refine q_g (j := 44) rfl rfl (by decide) (r_loadf Try.underlying9 rfl rfl (by first | exact .fact (by repeat (first | exact List.Mem.head _ | apply List.Mem.tail)) | exact .own (by repeat (first | exact List.Mem.head _ | apply List.Mem.tail)) (by decide) (fun _ => rfl)) (by assumption) (by rfl)).q ?_
    refine q_g (j := 44) rfl rfl (by decide) (p_len_str Try.underlying9 rfl).q ?_
    first | refine q_g (j := 44) rfl rfl (by decide) (p_faddr (i := 2) 2 Try.underlying30 rfl inf_9 (by decide) rfl rfl).q ?_ | refine q_g (j := 44) rfl rfl (by decide) (p_faddro (i := 2) 2 Try.underlying30 rfl inf_9 (by decide) rfl rfl).q ?_
    first | refine q_g (j := 44) rfl rfl (by decide) (r_loado Try.underlying9 rfl rfl (by repeat (first | exact List.Mem.head _ | apply List.Mem.tail)) (by rfl)).q ?_ | refine q_g (j := 44) rfl rfl (by decide) (r_load1 Try.underlying9 rfl rfl (by first | exact .fact (by repeat (first | exact List.Mem.head _ | apply List.Mem.tail)) | exact .own (by repeat (first | exact List.Mem.head _ | apply List.Mem.tail)) (by decide) (fun _ => rfl)) (by first | assumption | rfl) (by rfl)).q ?_ | refine q_g (j := 44) rfl rfl (by decide) (r_loadf Try.underlying9 rfl rfl (by first | exact .fact (by repeat (first | exact List.Mem.head _ | apply List.Mem.tail)) | exact .own (by repeat (first | exact List.Mem.head _ | apply List.Mem.tail)) (by decide) (fun _ => rfl)) (by assumption) (by rfl)).q ?_
    refine q_g (j := 44) rfl rfl (by decide) (p_len_str Try.underlying9 rfl).q ?_
    first | refine q_g (j := 44) rfl rfl (by decide) (((p_leq rfl rfl rfl rfl)).to (u := .bool true) (by rw [decide_eq_true (by omega)])).q ?_ | refine q_g (j := 44) rfl rfl (by decide) (((p_leqi rfl rfl)).to (u := .bool true) (by rw [decide_eq_true (by omega)])).q ?_
    refine q_q (by decide) (p_pick rfl rfl).q ?_
    refine q_q (by decide) (p_assign rfl).q ?_
    refine q_nil ?_
    refine c_ret ?_
    refine c_ret1 rfl rfl (fun w hs => ?_)
    exact ⟨rfl, hs.ext⟩
end Go.Proofs.Ytnkmemoagimddaa
