/- The walks of the laws of the write-ahead log; conditions: lengths that every value has. -/
import Derived.Test.YtjpachkjljmljaaWalksD
import Derived.Test.YtjpachkjljmljaaFxB
namespace Go.Proofs.Ytjpachkjljmljaa
open Go Go.Fx Go.Proofs

theorem decode_as (log : List UInt8) (l : List (List UInt8)) (n : Nat) (hd : Wal.dec log = l) (hn : (Wal.enc l).length = n) (hlen : log.length ≤ 100000) (w : World) : Calls Try.prog 16 #[str log] w (Ret fun v w' =>
    ∃ x : Option Addr × Nat, v = .tuple #[.slice x.1 l.length x.2, .int .i64 (n : Int)] ∧ Sl 1 strF x.1 l w' ∧ Dep w.heap.size w'.heap.size (Sl 1 strF x.1 l) ∧ Ext [] w w') := by
  subst hd; subst hn; exact decode_ok log hlen w
theorem decode2_as (log : List UInt8) (l : List (List UInt8)) (n : Nat) (hd : Wal.dec log = l) (hn : (Wal.enc l).length = n) (hlen : log.length ≤ 100000) (w : World) : Calls Try.prog 17 #[str log] w (Ret fun v w' =>
    ∃ x : Option Addr × Nat, v = .tuple #[.slice x.1 l.length x.2, .int .i64 (n : Int)] ∧ Sl 1 strF x.1 l w' ∧ Dep w.heap.size w'.heap.size (Sl 1 strF x.1 l) ∧ Ext [] w w') := by
  subst hd; subst hn; exact decode2_ok log hlen w
theorem same_refl (A B : Option Addr) (c d : Nat) (l m : List (List UInt8)) (hm : l = m) (hl : l.length < 140737488355328) (w : World) (hq : Sl 1 strF A l w) (hp : Sl 1 strF B m w) : Calls Try.prog 18 #[.slice A l.length c, .slice B m.length d] w (Ret fun v w' => v = .bool true ∧ Ext [] w w') := by
  have h := same_ok A B c d l m hl w hq hp
  rw [decide_eq_true hm] at h; exact h
theorem rcd_nil : [] ++ Wal.rcd [] = [0, 0, 0, 0, 21, 245, 149, 75] := by
  simp only [Wal.rcd, Wal.chk, Wal.hash, List.length_nil, Wal.little, List.foldl_cons, List.foldl_nil, Wal.stepH_def]
  decide +kernel
theorem append_nil (w : World) : Calls Try.prog 14 #[str [], str []] w (Ret fun v w' => v = str [0, 0, 0, 0, 21, 245, 149, 75] ∧ Ext [] w w') := by
  have h := append_ok [] [] (by decide) (by decide) w
  rw [rcd_nil] at h; exact h
theorem fits_step : ∀ (l : List (List UInt8)) (cut k : Nat) (r : List UInt8), k ≤ Wal.fits l cut → l[k]? = some r → ((Wal.enc (l.take k)).length + 8 + r.length ≤ cut ↔ k + 1 ≤ Wal.fits l cut)
  | [], _, _, _, _, h => by simp at h
  | s :: l, cut, 0, r, _, h => by
    simp at h; subst h
    simp only [Wal.fits, List.take_zero, Wal.enc, List.length_nil]
    split <;> omega
  | s :: l, cut, k + 1, r, hk, h => by
    simp only [Wal.fits] at hk ⊢
    split at hk
    · rename_i hc
      have := fits_step l (cut - (8 + s.length)) k r (by omega) (by simpa using h)
      simp only [List.take_succ_cons, Wal.enc, List.length_append, Wal.length_rcd]
      rw [if_pos hc]
      omega
    · omega
theorem enc_one (l : List (List UInt8)) (k : Nat) (r : List UInt8) (h : l[k]? = some r) : (Wal.enc (l.take (k + 1))).length = (Wal.enc (l.take k)).length + 8 + r.length := by
  rw [Wal.enc_take h, List.length_append, Wal.length_rcd]; omega
theorem bad_ok (l : List (List UInt8)) (hs : Wal.Short l) (i k : Nat) (c : UInt8) (r : List UInt8) (hr : l[k]? = some r) (h4 : (Wal.enc (l.take k)).length + 4 ≤ i) (hi : i < (Wal.enc (l.take k)).length + 8 + r.length) (u : UInt8) (hu : (Wal.enc l)[i]? = some u) (hc : u ≠ c) :
    Wal.dec ((Wal.enc l).take i ++ [c] ++ (Wal.enc l).drop (i + 1)) = l.take k := by
  have hk : k < l.length := (List.getElem?_eq_some_iff.1 hr).1
  have hlk : l[k] = r := (List.getElem?_eq_some_iff.1 hr).2
  have hsplit : l = l.take k ++ r :: l.drop (k + 1) := by rw [← hlk]; simp
  have hil : i < (Wal.enc l).length := (List.getElem?_eq_some_iff.1 hu).1
  have hset : (Wal.enc l).take i ++ [c] ++ (Wal.enc l).drop (i + 1) = (Wal.enc l).set i c := by
    rw [List.set_eq_take_append_cons_drop, if_pos hil]; simp
  rw [hset]
  have hd := Wal.dec_bad (l.take k) (l.drop (k + 1)) r (fun x hx => hs x (List.mem_of_mem_take hx)) (hs r (List.mem_of_getElem? hr)) (i - (Wal.enc (l.take k)).length) (by omega) (by omega) c ?_
  · rw [← hsplit, show (Wal.enc (l.take k)).length + (i - (Wal.enc (l.take k)).length) = i by omega] at hd
    exact hd
  · intro he
    rw [hsplit, Wal.enc_append] at hu
    rw [List.getElem?_append_right (by omega)] at hu
    simp only [Wal.enc] at hu
    rw [List.getElem?_append_left (by rw [Wal.length_rcd]; omega), he] at hu
    injection hu with hu
    exact hc hu.symm
theorem part_fact {w0 w : World} {K : List Nat} {σ : Own} {ρ : Facts} {A : Option Addr} {l : List (List UInt8)} (hs : St w0 K w σ ρ) (c k : Nat) (hc : l.length ≤ c) (hq : Sl 1 strF A l ∈ ρ) : Sl 1 strF (subA A c 0 1) (l.take k) w := by
  have := ((hs.facts _ hq).1).sub c 0 k hc
  simpa using this
theorem call_10 : Callable Try.prog 10 := ⟨_, Try.func10, by kernel_rfl, rfl⟩
theorem call_11 : Callable Try.prog 11 := ⟨_, Try.func11, by kernel_rfl, rfl⟩
theorem call_12 : Callable Try.prog 12 := ⟨_, Try.func12, by kernel_rfl, rfl⟩
theorem call_13 : Callable Try.prog 13 := ⟨_, Try.func13, by kernel_rfl, rfl⟩
theorem call_16 : Callable Try.prog 16 := ⟨_, Try.func16, by kernel_rfl, rfl⟩
theorem call_17 : Callable Try.prog 17 := ⟨_, Try.func17, by kernel_rfl, rfl⟩
theorem call_18 : Callable Try.prog 18 := ⟨_, Try.func18, by kernel_rfl, rfl⟩
theorem awake_ok (w : World) :
    Calls Try.prog 10 #[] w (Ret fun v w' => v = .bool true ∧ Ext [] w w') := by
  refine calls_fx (l := []) Try.func10 rfl Try.ntmps10 (Nat.le_of_ble_eq_true rfl) (St.start w) ?_
  refine c_seq ?_
  refine c_reg ?_
  refine l_q (by decide) (p_assign rfl).q ?_
  refine l_nil ?_
  refine c_seq ?_
  refine c_reg ?_
  refine l_buildSlice (by decide) Try.underlying22 inf_9 (by decide) (by decide) rfl rfl rfl rfl (fun b4 => ?_)
  refine l_sealc strF [[97], []] rfl (fun _ => rfl) ?_
  refine l_q (by decide) (q_call call_12 rfl (fun w hs => encode_ok _ 2 [[97], []] (by decide) (by rw [Wal.length_enc]; decide) w (hs.facts (Sl 1 strF _ ([[97], []])) (by repeat (first | exact List.Mem.head _ | apply List.Mem.tail))).1)) ?_
  refine l_call (fun x : Option Addr × Nat => .tuple #[.slice x.1 ([[97], []]).length x.2, .int .i64 ((17 : Nat) : Int)]) (fun x => Sl 1 strF x.1 ([[97], []])) (by decide) call_16 rfl (fun w hs => decode_as _ [[97], []] 17 (Wal.dec_enc _ (by intro r hr; simp at hr; rcases hr with rfl | rfl <;> decide)) (by rw [Wal.length_enc]; rfl) (by rw [Wal.length_enc]; decide) w) (fun x => ?_)
  obtain ⟨A6, c6⟩ := x
  refine l_q (by decide) (p_move rfl).q ?_
  refine l_q (by decide) (p_extract rfl rfl).q ?_
  refine l_q (by decide) (p_extract rfl rfl).q ?_
  refine l_q (by decide) (p_assign rfl).q ?_
  refine l_q (by decide) (p_assign rfl).q ?_
  refine l_nil ?_
  refine c_seq ?_
  refine c_reg ?_
  refine l_q (by decide) (q_call call_14 rfl (fun w hs => append_nil w)) ?_
  refine l_q (by decide) (((p_eqs rfl rfl)).to (u := .bool true) (rfl)).q ?_
  refine l_q (by decide) (p_move rfl).q ?_
  refine l_g (j := 2) rfl rfl (by decide) (p_move rfl).q ?_
  refine l_g (j := 2) rfl rfl (by decide) (p_len_sl Try.underlying22 rfl).q ?_
  first | refine l_g (j := 2) rfl rfl (by decide) (((p_eql (j := 2) rfl rfl rfl rfl)).to (u := .bool true) (rfl)).q ?_ | refine l_g (j := 2) rfl rfl (by decide) (((p_eqli rfl rfl)).to (u := .bool true) (rfl)).q ?_
  refine l_q (by decide) (p_pick rfl rfl).q ?_
  refine l_q (by decide) (p_move rfl).q ?_
  refine l_g (j := 7) rfl rfl (by decide) (p_move rfl).q ?_
  first | refine l_g (j := 7) rfl rfl (by decide) (r_index (j := 0) Try.underlying22 inf_9 rfl rfl rfl (by first | exact .fact (by repeat (first | exact List.Mem.head _ | apply List.Mem.tail)) | exact .own (by repeat (first | exact List.Mem.head _ | apply List.Mem.tail)) (by decide) (fun _ => rfl)) rfl (by omega)).q ?_ | refine l_g (j := 7) rfl rfl (by decide) (r_index (j := 0) Try.underlying22 inf_9 rfl rfl rfl (by first | exact .fact (by repeat (first | exact List.Mem.head _ | apply List.Mem.tail)) | exact .own (by repeat (first | exact List.Mem.head _ | apply List.Mem.tail)) (by decide) (fun _ => rfl)) rfl (by decide)).q ?_
  first | refine l_g (j := 7) rfl rfl (by decide) (r_loado Try.underlying9 rfl rfl (by repeat (first | exact List.Mem.head _ | apply List.Mem.tail)) (by rfl)).q ?_ | refine l_g (j := 7) rfl rfl (by decide) (r_load1 Try.underlying9 rfl rfl (by first | exact .fact (by repeat (first | exact List.Mem.head _ | apply List.Mem.tail)) | exact .own (by repeat (first | exact List.Mem.head _ | apply List.Mem.tail)) (by decide) (fun _ => rfl)) (by first | assumption | rfl) (by rfl)).q ?_ | refine l_g (j := 7) rfl rfl (by decide) (r_loadf Try.underlying9 rfl rfl (by first | exact .fact (by repeat (first | exact List.Mem.head _ | apply List.Mem.tail)) | exact .own (by repeat (first | exact List.Mem.head _ | apply List.Mem.tail)) (by decide) (fun _ => rfl)) (by assumption) (by rfl)).q ?_
  refine l_g (j := 7) rfl rfl (by decide) (((p_eqs rfl rfl)).to (u := .bool true) (rfl)).q ?_
  refine l_q (by decide) (p_pick rfl rfl).q ?_
  refine l_q (by decide) (p_move rfl).q ?_
  refine l_g (j := 13) rfl rfl (by decide) (p_move rfl).q ?_
  first | refine l_g (j := 13) rfl rfl (by decide) (r_index (j := 1) Try.underlying22 inf_9 rfl rfl rfl (by first | exact .fact (by repeat (first | exact List.Mem.head _ | apply List.Mem.tail)) | exact .own (by repeat (first | exact List.Mem.head _ | apply List.Mem.tail)) (by decide) (fun _ => rfl)) rfl (by omega)).q ?_ | refine l_g (j := 13) rfl rfl (by decide) (r_index (j := 1) Try.underlying22 inf_9 rfl rfl rfl (by first | exact .fact (by repeat (first | exact List.Mem.head _ | apply List.Mem.tail)) | exact .own (by repeat (first | exact List.Mem.head _ | apply List.Mem.tail)) (by decide) (fun _ => rfl)) rfl (by decide)).q ?_
  first | refine l_g (j := 13) rfl rfl (by decide) (r_loado Try.underlying9 rfl rfl (by repeat (first | exact List.Mem.head _ | apply List.Mem.tail)) (by rfl)).q ?_ | refine l_g (j := 13) rfl rfl (by decide) (r_load1 Try.underlying9 rfl rfl (by first | exact .fact (by repeat (first | exact List.Mem.head _ | apply List.Mem.tail)) | exact .own (by repeat (first | exact List.Mem.head _ | apply List.Mem.tail)) (by decide) (fun _ => rfl)) (by first | assumption | rfl) (by rfl)).q ?_ | refine l_g (j := 13) rfl rfl (by decide) (r_loadf Try.underlying9 rfl rfl (by first | exact .fact (by repeat (first | exact List.Mem.head _ | apply List.Mem.tail)) | exact .own (by repeat (first | exact List.Mem.head _ | apply List.Mem.tail)) (by decide) (fun _ => rfl)) (by assumption) (by rfl)).q ?_
  refine l_g (j := 13) rfl rfl (by decide) (((p_eqs rfl rfl)).to (u := .bool true) (rfl)).q ?_
  refine l_q (by decide) (p_pick rfl rfl).q ?_
  refine l_q (by decide) (p_move rfl).q ?_
  refine l_g (j := 19) rfl rfl (by decide) (p_move rfl).q ?_
  first | refine l_g (j := 19) rfl rfl (by decide) (((p_eql (j := 17) rfl rfl rfl rfl)).to (u := .bool true) (rfl)).q ?_ | refine l_g (j := 19) rfl rfl (by decide) (((p_eqli rfl rfl)).to (u := .bool true) (rfl)).q ?_
  refine l_q (by decide) (p_pick rfl rfl).q ?_
  refine l_q (by decide) (p_assign rfl).q ?_
  refine l_nil ?_
  refine c_ret ?_
  refine c_ret1 rfl rfl (fun w hs => ?_)
  exact ⟨rfl, hs.ext⟩

theorem law3_ok (A : Option Addr) (c : Nat) (l : List (List UInt8)) (hl : l.length < 140737488355328) (hsz : ∀ r, r ∈ l → r.length < 140737488355328)  (r : List UInt8) (hr : r.length < 140737488355328) (w : World) (hq : Sl 1 strF A l w) :
    Calls Try.prog 3 #[.slice A l.length c, str r] w (Ret fun v w' => v = .bool true ∧ Ext [] w w') := by
  refine calls_fx (l := [.slice A l.length c, str r]) Try.func3 rfl Try.ntmps3 (Nat.le_of_ble_eq_true rfl) ((St.start w).old hq (dep_sl (by decide) hq)) ?_
  refine c_seq ?_
  refine c_reg ?_
  refine l_q (by decide) (p_assign rfl).q ?_
  refine l_nil ?_
  refine c_seq ?_
  refine c_seq ?_
  refine c_reg ?_
  refine l_q (by decide) (q_call call_10 rfl (fun w hs => awake_ok w)) ?_
  refine l_q (by decide) (p_not rfl).q ?_
  refine l_nil ?_
  refine c_false rfl ?_
  refine c_skip ?_
  refine c_seq ?_
  refine c_seq ?_
  refine c_reg ?_
  refine l_q (by decide) (p_move rfl).q ?_
  refine l_q (by decide) (q_call call_11 rfl (fun w hs => few_ok A c l hl hsz w (hs.facts (Sl 1 strF A (l)) (by repeat (first | exact List.Mem.head _ | apply List.Mem.tail))).1)) ?_
  first | refine l_q (by decide) (p_notd rfl).q ?_ | refine l_q (by decide) (p_not rfl).q ?_
  refine l_q (by decide) (p_move rfl).q ?_
  first | refine l_splitd (t := 11) rfl (fun h11 => ?_) (fun h11 => ?_) | refine l_splitb (t := 11) rfl (fun h11 => ?_) (fun h11 => ?_)
  · skip
    refine l_off (j := 3) rfl rfl (by first | simp | simp [undef]) (by decide) ?_
    refine l_off (j := 3) rfl rfl (by first | simp | simp [undef]) (by decide) ?_
    refine l_off (j := 3) rfl rfl (by first | simp | simp [undef]) (by decide) ?_
    refine l_q (by decide) (p_pick rfl rfl).q ?_
    refine l_nil ?_
    refine c_true rfl ?_
    refine c_seq ?_
    refine c_reg ?_
    refine l_q (by decide) (p_assign rfl).q ?_
    refine l_nil ?_
    refine c_ret ?_
    refine c_ret1 rfl rfl (fun w hs => ?_)
    exact ⟨rfl, hs.ext⟩
  · skip
    refine l_g (j := 3) rfl rfl (by decide) (p_move rfl).q ?_
    refine l_g (j := 3) rfl rfl (by decide) (p_len_str Try.underlying9 rfl).q ?_
    first | refine l_g (j := 3) rfl rfl (by decide) (p_gtr (j := 300) rfl rfl rfl rfl).q ?_ | refine l_g (j := 3) rfl rfl (by decide) (p_gtri rfl rfl).q ?_
    refine l_q (by decide) (p_pick rfl rfl).q ?_
    refine l_nil ?_
    first | refine c_dec rfl (fun h15 => ?_) (fun h15 => ?_) | refine c_cond rfl (fun h15 => ?_) (fun h15 => ?_)
    · skip
      skip
      refine c_seq ?_
      refine c_reg ?_
      refine l_q (by decide) (p_assign rfl).q ?_
      refine l_nil ?_
      refine c_ret ?_
      refine c_ret1 rfl rfl (fun w hs => ?_)
      exact ⟨rfl, hs.ext⟩
    · skip
      have hf : Wal.few l = true := by simpa using h11
      have hf1 := Wal.few_le hf
      have hf2 := Wal.few_enc hf
      have hf3 := Wal.few_short hf
      have h14 : ¬ 300 < r.length := by simpa using h15
      refine c_skip ?_
      refine c_seq ?_
      refine c_reg ?_
      refine l_q (by decide) (p_move rfl).q ?_
      refine l_q (by decide) (q_call call_12 rfl (fun w hs => encode_ok A c (l) (by omega) (by omega) w (hs.facts (Sl 1 strF A (l)) (by repeat (first | exact List.Mem.head _ | apply List.Mem.tail))).1)) ?_
      refine l_q (by decide) (p_assign rfl).q ?_
      refine l_nil ?_
      refine c_seq ?_
      refine c_reg ?_
      refine l_q (by decide) (p_move rfl).q ?_
      refine l_q (by decide) (p_move rfl).q ?_
      refine l_q (by decide) (q_call call_13 rfl (fun w hs => encode2_ok A c l (by omega) (by omega) w (hs.facts (Sl 1 strF A (l)) (by repeat (first | exact List.Mem.head _ | apply List.Mem.tail))).1)) ?_
      refine l_q (by decide) (((p_eqs rfl rfl)).to (u := .bool true) (by simp)).q ?_
      refine l_q (by decide) (p_move rfl).q ?_
      refine l_g (j := 4) rfl rfl (by decide) (p_move rfl).q ?_
      refine l_g (j := 4) rfl rfl (by decide) (p_move rfl).q ?_
      refine l_g (j := 4) rfl rfl (by decide) (q_call call_14 rfl (fun w hs => append_ok _ _ (by omega) (by omega) w)) ?_
      refine l_g (j := 4) rfl rfl (by decide) (p_move rfl).q ?_
      refine l_g (j := 4) rfl rfl (by decide) (p_move rfl).q ?_
      refine l_g (j := 4) rfl rfl (by decide) (q_call call_15 rfl (fun w hs => append2_ok _ _ (by omega) (by omega) w)) ?_
      refine l_g (j := 4) rfl rfl (by decide) (((p_eqs rfl rfl)).to (u := .bool true) (by simp)).q ?_
      refine l_q (by decide) (p_pick rfl rfl).q ?_
      refine l_q (by decide) (p_assign rfl).q ?_
      refine l_nil ?_
      refine c_ret ?_
      refine c_ret1 rfl rfl (fun w hs => ?_)
      exact ⟨rfl, hs.ext⟩

theorem law4_ok (log : List UInt8) (hlog : log.length < 140737488355328) (w : World) :
    Calls Try.prog 4 #[str log] w (Ret fun v w' => v = .bool true ∧ Ext [] w w') := by
  have hdl : (Wal.dec log).length < 140737488355328 := by have h1 := Wal.enc_dec_le log; have h2 := Wal.length_enc (Wal.dec log); omega
  refine calls_fx (l := [str log]) Try.func4 rfl Try.ntmps4 (Nat.le_of_ble_eq_true rfl) (St.start w) ?_
  refine c_seq ?_
  refine c_reg ?_
  refine l_q (by decide) (p_assign rfl).q ?_
  refine l_nil ?_
  refine c_seq ?_
  refine c_seq ?_
  refine c_reg ?_
  refine l_q (by decide) (q_call call_10 rfl (fun w hs => awake_ok w)) ?_
  refine l_q (by decide) (p_not rfl).q ?_
  refine l_nil ?_
  refine c_false rfl ?_
  refine c_skip ?_
  refine c_seq ?_
  refine c_seq ?_
  refine c_reg ?_
  refine l_q (by decide) (p_move rfl).q ?_
  refine l_q (by decide) (p_len_str Try.underlying9 rfl).q ?_
  first | refine l_q (by decide) (p_gtr (j := 3000) rfl rfl rfl rfl).q ?_ | refine l_q (by decide) (p_gtri rfl rfl).q ?_
  refine l_nil ?_
  first | refine c_dec rfl (fun h11 => ?_) (fun h11 => ?_) | refine c_cond rfl (fun h11 => ?_) (fun h11 => ?_)
  · skip
    refine c_seq ?_
    refine c_reg ?_
    refine l_q (by decide) (p_assign rfl).q ?_
    refine l_nil ?_
    refine c_ret ?_
    refine c_ret1 rfl rfl (fun w hs => ?_)
    exact ⟨rfl, hs.ext⟩
  · skip
    refine c_skip ?_
    refine c_seq ?_
    have h11 : ¬ 3000 < log.length := h11
    refine c_reg ?_
    refine l_q (by decide) (p_move rfl).q ?_
    refine l_call (fun x : Option Addr × Nat => .tuple #[.slice x.1 (Wal.dec log).length x.2, .int .i64 (((Wal.enc (Wal.dec log)).length : Nat) : Int)]) (fun x => Sl 1 strF x.1 (Wal.dec log)) (by decide) call_16 rfl (fun w hs => decode_as _ _ _ rfl rfl (by omega) w) (fun x => ?_)
    obtain ⟨A14, c14⟩ := x
    refine l_q (by decide) (p_move rfl).q ?_
    refine l_q (by decide) (p_extract rfl rfl).q ?_
    refine l_q (by decide) (p_extract rfl rfl).q ?_
    refine l_q (by decide) (p_assign rfl).q ?_
    refine l_q (by decide) (p_assign rfl).q ?_
    refine l_nil ?_
    refine c_seq ?_
    refine c_reg ?_
    refine l_q (by decide) (p_move rfl).q ?_
    refine l_call (fun x : Option Addr × Nat => .tuple #[.slice x.1 (Wal.dec log).length x.2, .int .i64 (((Wal.enc (Wal.dec log)).length : Nat) : Int)]) (fun x => Sl 1 strF x.1 (Wal.dec log)) (by decide) call_17 rfl (fun w hs => decode2_as _ _ _ rfl rfl (by omega) w) (fun x => ?_)
    obtain ⟨A19, c19⟩ := x
    refine l_q (by decide) (p_move rfl).q ?_
    refine l_q (by decide) (p_extract rfl rfl).q ?_
    refine l_q (by decide) (p_extract rfl rfl).q ?_
    refine l_q (by decide) (p_assign rfl).q ?_
    refine l_q (by decide) (p_assign rfl).q ?_
    refine l_nil ?_
    refine c_seq ?_
    refine c_reg ?_
    refine l_q (by decide) (p_move rfl).q ?_
    refine l_q (by decide) (p_move rfl).q ?_
    refine l_q (by decide) (q_call call_18 rfl (fun w hs => same_refl A14 A19 c14 c19 _ _ rfl hdl w (hs.facts (Sl 1 strF A14 (Wal.dec log)) (by repeat (first | exact List.Mem.head _ | apply List.Mem.tail))).1 (hs.facts (Sl 1 strF A19 (Wal.dec log)) (by repeat (first | exact List.Mem.head _ | apply List.Mem.tail))).1)) ?_
    refine l_q (by decide) (p_move rfl).q ?_
    refine l_g (j := 3) rfl rfl (by decide) (p_move rfl).q ?_
    refine l_g (j := 3) rfl rfl (by decide) (p_move rfl).q ?_
    first | refine l_g (j := 3) rfl rfl (by decide) (((p_eql rfl rfl rfl rfl)).to (u := .bool true) (by simp)).q ?_ | refine l_g (j := 3) rfl rfl (by decide) (((p_eqli rfl rfl)).to (u := .bool true) (by simp)).q ?_
    refine l_q (by decide) (p_pick rfl rfl).q ?_
    refine l_q (by decide) (p_assign rfl).q ?_
    refine l_nil ?_
    refine c_ret ?_
    refine c_ret1 rfl rfl (fun w hs => ?_)
    exact ⟨rfl, hs.ext⟩

theorem law5_ok (A : Option Addr) (c : Nat) (l : List (List UInt8)) (hl : l.length < 140737488355328) (hsz : ∀ r, r ∈ l → r.length < 140737488355328)  (w : World) (hq : Sl 1 strF A l w) :
    Calls Try.prog 5 #[.slice A l.length c] w (Ret fun v w' => v = .bool true ∧ Ext [] w w') := by
  refine calls_fx (l := [.slice A l.length c]) Try.func5 rfl Try.ntmps5 (Nat.le_of_ble_eq_true rfl) ((St.start w).old hq (dep_sl (by decide) hq)) ?_
  refine c_seq ?_
  refine c_reg ?_
  refine l_q (by decide) (p_assign rfl).q ?_
  refine l_nil ?_
  refine c_seq ?_
  refine c_seq ?_
  refine c_reg ?_
  refine l_q (by decide) (q_call call_10 rfl (fun w hs => awake_ok w)) ?_
  refine l_q (by decide) (p_not rfl).q ?_
  refine l_nil ?_
  refine c_false rfl ?_
  refine c_skip ?_
  refine c_seq ?_
  refine c_seq ?_
  refine c_reg ?_
  refine l_q (by decide) (p_move rfl).q ?_
  refine l_q (by decide) (q_call call_11 rfl (fun w hs => few_ok A c l hl hsz w (hs.facts (Sl 1 strF A (l)) (by repeat (first | exact List.Mem.head _ | apply List.Mem.tail))).1)) ?_
  first | refine l_q (by decide) (p_notd rfl).q ?_ | refine l_q (by decide) (p_not rfl).q ?_
  refine l_nil ?_
  first | refine c_dec rfl (fun h10 => ?_) (fun h10 => ?_) | refine c_cond rfl (fun h10 => ?_) (fun h10 => ?_)
  · skip
    refine c_seq ?_
    refine c_reg ?_
    refine l_q (by decide) (p_assign rfl).q ?_
    refine l_nil ?_
    refine c_ret ?_
    refine c_ret1 rfl rfl (fun w hs => ?_)
    exact ⟨rfl, hs.ext⟩
  · skip
    have hf : Wal.few l = true := by simpa using h10
    have hf1 := Wal.few_le hf
    have hf2 := Wal.few_enc hf
    have hf3 := Wal.few_short hf
    refine c_skip ?_
    refine c_seq ?_
    refine c_reg ?_
    refine l_q (by decide) (p_move rfl).q ?_
    refine l_q (by decide) (q_call call_12 rfl (fun w hs => encode_ok A c (l) (by omega) (by omega) w (hs.facts (Sl 1 strF A (l)) (by repeat (first | exact List.Mem.head _ | apply List.Mem.tail))).1)) ?_
    refine l_q (by decide) (p_assign rfl).q ?_
    refine l_nil ?_
    refine c_seq ?_
    refine c_reg ?_
    refine l_q (by decide) (p_move rfl).q ?_
    refine l_call (fun x : Option Addr × Nat => .tuple #[.slice x.1 (l).length x.2, .int .i64 (((Wal.enc l).length : Nat) : Int)]) (fun x => Sl 1 strF x.1 (l)) (by decide) call_16 rfl (fun w hs => decode_as _ l (Wal.enc l).length (Wal.dec_enc _ hf3) rfl (by omega) w) (fun x => ?_)
    obtain ⟨A15, c15⟩ := x
    refine l_q (by decide) (p_move rfl).q ?_
    refine l_q (by decide) (p_extract rfl rfl).q ?_
    refine l_q (by decide) (p_extract rfl rfl).q ?_
    refine l_q (by decide) (p_assign rfl).q ?_
    refine l_q (by decide) (p_assign rfl).q ?_
    refine l_nil ?_
    refine c_seq ?_
    refine c_reg ?_
    refine l_q (by decide) (p_move rfl).q ?_
    refine l_q (by decide) (p_move rfl).q ?_
    refine l_q (by decide) (q_call call_18 rfl (fun w hs => same_refl A A15 c c15 l l rfl hl w (hs.facts (Sl 1 strF A (l)) (by repeat (first | exact List.Mem.head _ | apply List.Mem.tail))).1 (hs.facts (Sl 1 strF A15 (l)) (by repeat (first | exact List.Mem.head _ | apply List.Mem.tail))).1)) ?_
    refine l_q (by decide) (p_move rfl).q ?_
    refine l_g (j := 3) rfl rfl (by decide) (p_move rfl).q ?_
    refine l_g (j := 3) rfl rfl (by decide) (p_move rfl).q ?_
    refine l_g (j := 3) rfl rfl (by decide) (p_len_str Try.underlying9 rfl).q ?_
    first | refine l_g (j := 3) rfl rfl (by decide) (((p_eql rfl rfl rfl rfl)).to (u := .bool true) (by simp)).q ?_ | refine l_g (j := 3) rfl rfl (by decide) (((p_eqli rfl rfl)).to (u := .bool true) (by simp)).q ?_
    refine l_q (by decide) (p_pick rfl rfl).q ?_
    refine l_q (by decide) (p_assign rfl).q ?_
    refine l_nil ?_
    refine c_ret ?_
    refine c_ret1 rfl rfl (fun w hs => ?_)
    exact ⟨rfl, hs.ext⟩

theorem law6_ok (A : Option Addr) (c : Nat) (l : List (List UInt8)) (hl : l.length < 140737488355328) (hsz : ∀ r, r ∈ l → r.length < 140737488355328) (hc : l.length ≤ c) (cut : Nat) (hcut : cut < 65536) (w : World) (hq : Sl 1 strF A l w) :
    Calls Try.prog 6 #[.slice A l.length c, .int .u16 (cut : Int)] w (Ret fun v w' => v = .bool true ∧ Ext [] w w') := by
  refine calls_fx (l := [.slice A l.length c, .int .u16 (cut : Int)]) Try.func6 rfl Try.ntmps6 (Nat.le_of_ble_eq_true rfl) ((St.start w).old hq (dep_sl (by decide) hq)) ?_
  refine c_seq ?_
  refine c_reg ?_
  refine l_q (by decide) (p_assign rfl).q ?_
  refine l_nil ?_
  refine c_seq ?_
  refine c_seq ?_
  refine c_reg ?_
  refine l_q (by decide) (q_call call_10 rfl (fun w hs => awake_ok w)) ?_
  refine l_q (by decide) (p_not rfl).q ?_
  refine l_nil ?_
  refine c_false rfl ?_
  refine c_skip ?_
  refine c_seq ?_
  refine c_seq ?_
  refine c_reg ?_
  refine l_q (by decide) (p_move rfl).q ?_
  refine l_q (by decide) (q_call call_11 rfl (fun w hs => few_ok A c l hl hsz w (hs.facts (Sl 1 strF A (l)) (by repeat (first | exact List.Mem.head _ | apply List.Mem.tail))).1)) ?_
  first | refine l_q (by decide) (p_notd rfl).q ?_ | refine l_q (by decide) (p_not rfl).q ?_
  refine l_nil ?_
  first | refine c_dec rfl (fun h15 => ?_) (fun h15 => ?_) | refine c_cond rfl (fun h15 => ?_) (fun h15 => ?_)
  · skip
    refine c_seq ?_
    refine c_reg ?_
    refine l_q (by decide) (p_assign rfl).q ?_
    refine l_nil ?_
    refine c_ret ?_
    refine c_ret1 rfl rfl (fun w hs => ?_)
    exact ⟨rfl, hs.ext⟩
  · skip
    have hf : Wal.few l = true := by simpa using h15
    have hf1 := Wal.few_le hf
    have hf2 := Wal.few_enc hf
    have hf3 := Wal.few_short hf
    refine c_skip ?_
    refine c_seq ?_
    refine c_reg ?_
    refine l_q (by decide) (p_move rfl).q ?_
    refine l_q (by decide) (q_call call_12 rfl (fun w hs => encode_ok A c (l) (by omega) (by omega) w (hs.facts (Sl 1 strF A (l)) (by repeat (first | exact List.Mem.head _ | apply List.Mem.tail))).1)) ?_
    refine l_q (by decide) (p_assign rfl).q ?_
    refine l_nil ?_
    refine c_seq ?_
    refine c_reg ?_
    refine l_q (by decide) (p_move rfl).q ?_
    refine l_q (by decide) (p_convn Try.underlying32 Try.underlying3 rfl rfl (by show _ ≤ (9223372036854775807 : Nat); omega)).q ?_
    refine l_q (by decide) (p_move rfl).q ?_
    refine l_q (by decide) (p_len_str Try.underlying9 rfl).q ?_
    first | refine l_q (by decide) (p_add (j := 1) rfl rfl rfl rfl (by show _ ≤ (9223372036854775807 : Nat); omega)).q ?_ | refine l_q (by decide) (p_addi rfl rfl (by show (-9223372036854775808 : Int) ≤ _; omega) (by show _ ≤ ((9223372036854775807 : Nat) : Int); omega)).q ?_
    skip
    refine l_q (by decide) (p_rem rfl rfl rfl rfl (by omega)).q ?_
    refine l_q (by decide) (p_assign rfl).q ?_
    refine l_nil ?_
    refine c_seq ?_
    have hat : cut % ((Wal.enc l).length + 1) ≤ (Wal.enc l).length := by have := Nat.mod_lt cut (show 0 < (Wal.enc l).length + 1 by omega); omega
    generalize cut % ((Wal.enc l).length + 1) = at_ at *
    refine c_reg ?_
    refine l_q (by decide) (p_move rfl).q ?_
    refine l_q (by decide) (p_move rfl).q ?_
    first | refine l_q (by decide) (p_slice_h Try.underlying9 rfl rfl rfl (by omega)).q ?_ | refine l_q (by decide) (p_slice_h Try.underlying9 rfl rfl rfl (by simp; omega)).q ?_
    refine l_call (fun x : Option Addr × Nat => .tuple #[.slice x.1 (l.take (Wal.fits l at_)).length x.2, .int .i64 (((Wal.enc (l.take (Wal.fits l at_))).length : Nat) : Int)]) (fun x => Sl 1 strF x.1 (l.take (Wal.fits l at_))) (by decide) call_16 rfl (fun w hs => decode_as _ (l.take (Wal.fits l at_)) _ (Wal.dec_take l hf3 at_) rfl (by simp only [List.length_take]; omega) w) (fun x => ?_)
    obtain ⟨A28, c28⟩ := x
    skip
    refine l_q (by decide) (p_move rfl).q ?_
    refine l_q (by decide) (p_extract rfl rfl).q ?_
    refine l_q (by decide) (p_extract rfl rfl).q ?_
    refine l_q (by decide) (p_assign rfl).q ?_
    refine l_q (by decide) (p_assign rfl).q ?_
    refine l_nil ?_
    refine c_seq ?_
    refine c_reg ?_
    refine l_q (by decide) (p_assign (v := .int .i64 ((0 : Nat) : Int)) rfl).q ?_
    refine l_q (by decide) (p_assign (v := .int .i64 ((0 : Nat) : Int)) rfl).q ?_
    refine l_nil ?_
    refine c_seq ?_
    refine c_block ?_
    refine c_loop (S := Nat × Nat) (fun s => s.1 ≤ l.length ∧ s.1 ≤ Wal.fits l at_ ∧ s.2 = (Wal.enc (l.take s.1)).length) (fun s => l.length - s.1) (fun s => [(0, .slice A l.length c), (6, .int .i64 (at_ : Int)), (7, .slice A28 (l.take (Wal.fits l at_)).length c28), (8, .int .i64 ((Wal.enc (l.take (Wal.fits l at_))).length : Int)), (9, .int .i64 (s.1 : Int)), (10, .int .i64 (s.2 : Int))]) (fun s => []) (fun s => [Sl 1 strF A28 (l.take (Wal.fits l at_)), Sl 1 strF A l]) (0, 0) ?_ ?_ ?_ ?_ ?_
    · show (0) ≤ l.length ∧ (0) ≤ Wal.fits l at_ ∧ (0) = (Wal.enc (l.take (0))).length
      exact ⟨Nat.zero_le _, Nat.zero_le _, rfl⟩
    · exact ⟨rfl, rfl, rfl, rfl, rfl, rfl, trivial⟩
    · exact .refl _
    · simp
    rintro ⟨k, e⟩ hinv
    have hinv : k ≤ l.length ∧ k ≤ Wal.fits l at_ ∧ e = (Wal.enc (l.take k)).length := hinv
    obtain ⟨hk, hkf, he⟩ := hinv
    have hek := Wal.enc_take_le l k
    show Cont _ _ _ _ [(0, .slice A l.length c), (6, .int .i64 (at_ : Int)), (7, .slice A28 (l.take (Wal.fits l at_)).length c28), (8, .int .i64 ((Wal.enc (l.take (Wal.fits l at_))).length : Int)), (9, .int .i64 (k : Int)), (10, .int .i64 (e : Int))] [] [Sl 1 strF A28 (l.take (Wal.fits l at_)), Sl 1 strF A l]
    refine c_seq ?_
    refine c_seq ?_
    refine c_reg ?_
    refine l_q (by decide) (p_move rfl).q ?_
    refine l_q (by decide) (p_move rfl).q ?_
    refine l_q (by decide) (p_len_sl Try.underlying22 rfl).q ?_
    first | refine l_q (by decide) (p_lss rfl rfl rfl rfl).q ?_ | refine l_q (by decide) (p_lssi rfl rfl).q ?_
    refine l_q (by decide) (p_move rfl).q ?_
    first | refine l_splitd (t := 35) rfl (fun h35 => ?_) (fun h35 => ?_) | refine l_splitb (t := 35) rfl (fun h35 => ?_) (fun h35 => ?_)
    · skip
      have h35 : k < l.length := h35
      obtain ⟨r, hr⟩ : ∃ r, l[k]? = some r := ⟨_, List.getElem?_eq_getElem h35⟩
      have hrl := hsz r (List.mem_of_getElem? hr)
      have hst := fits_step l at_ k r hkf hr
      refine l_g (j := 4) rfl rfl (by decide) (p_move rfl).q ?_
      first | refine l_g (j := 4) rfl rfl (by decide) (p_add (j := 8) rfl rfl rfl rfl (by show _ ≤ (9223372036854775807 : Nat); omega)).q ?_ | refine l_g (j := 4) rfl rfl (by decide) (p_addi rfl rfl (by show (-9223372036854775808 : Int) ≤ _; omega) (by show _ ≤ ((9223372036854775807 : Nat) : Int); omega)).q ?_
      refine l_g (j := 4) rfl rfl (by decide) (p_move rfl).q ?_
      refine l_g (j := 4) rfl rfl (by decide) (p_move rfl).q ?_
      first | refine l_g (j := 4) rfl rfl (by decide) (r_index Try.underlying22 inf_9 rfl rfl rfl (by first | exact .fact (by repeat (first | exact List.Mem.head _ | apply List.Mem.tail)) | exact .own (by repeat (first | exact List.Mem.head _ | apply List.Mem.tail)) (by decide) (fun _ => rfl)) rfl (by omega)).q ?_ | refine l_g (j := 4) rfl rfl (by decide) (r_index Try.underlying22 inf_9 rfl rfl rfl (by first | exact .fact (by repeat (first | exact List.Mem.head _ | apply List.Mem.tail)) | exact .own (by repeat (first | exact List.Mem.head _ | apply List.Mem.tail)) (by decide) (fun _ => rfl)) rfl (by decide)).q ?_
      first | refine l_g (j := 4) rfl rfl (by decide) (r_loado Try.underlying9 rfl rfl (by repeat (first | exact List.Mem.head _ | apply List.Mem.tail)) (by rfl)).q ?_ | refine l_g (j := 4) rfl rfl (by decide) (r_load1 Try.underlying9 rfl rfl (by first | exact .fact (by repeat (first | exact List.Mem.head _ | apply List.Mem.tail)) | exact .own (by repeat (first | exact List.Mem.head _ | apply List.Mem.tail)) (by decide) (fun _ => rfl)) (by first | assumption | rfl) (by rfl)).q ?_ | refine l_g (j := 4) rfl rfl (by decide) (r_loadf Try.underlying9 rfl rfl (by first | exact .fact (by repeat (first | exact List.Mem.head _ | apply List.Mem.tail)) | exact .own (by repeat (first | exact List.Mem.head _ | apply List.Mem.tail)) (by decide) (fun _ => rfl)) (by assumption) (by rfl)).q ?_
      refine l_g (j := 4) rfl rfl (by decide) (p_len_str Try.underlying9 rfl).q ?_
      first | refine l_g (j := 4) rfl rfl (by decide) (p_add rfl rfl rfl rfl (by show _ ≤ (9223372036854775807 : Nat); omega)).q ?_ | refine l_g (j := 4) rfl rfl (by decide) (p_addi rfl rfl (by show (-9223372036854775808 : Int) ≤ _; omega) (by show _ ≤ ((9223372036854775807 : Nat) : Int); omega)).q ?_
      refine l_g (j := 4) rfl rfl (by decide) (p_move rfl).q ?_
      first | refine l_g (j := 4) rfl rfl (by decide) (p_leq rfl rfl rfl rfl).q ?_ | refine l_g (j := 4) rfl rfl (by decide) (p_leqi rfl rfl).q ?_
      refine l_q (by decide) (p_pick rfl rfl).q ?_
      refine l_nil ?_
      first | refine c_dec rfl (fun h46 => ?_) (fun h46 => ?_) | refine c_cond rfl (fun h46 => ?_) (fun h46 => ?_)
      · skip
        refine c_skip ?_
        refine c_block ?_
        refine c_seq ?_
        refine c_reg ?_
        refine l_q (by decide) (p_move rfl).q ?_
        first | refine l_q (by decide) (p_add (j := 8) rfl rfl rfl rfl (by show _ ≤ (9223372036854775807 : Nat); omega)).q ?_ | refine l_q (by decide) (p_addi rfl rfl (by show (-9223372036854775808 : Int) ≤ _; omega) (by show _ ≤ ((9223372036854775807 : Nat) : Int); omega)).q ?_
        refine l_q (by decide) (p_move rfl).q ?_
        refine l_q (by decide) (p_move rfl).q ?_
        first | refine l_q (by decide) (r_index Try.underlying22 inf_9 rfl rfl rfl (by first | exact .fact (by repeat (first | exact List.Mem.head _ | apply List.Mem.tail)) | exact .own (by repeat (first | exact List.Mem.head _ | apply List.Mem.tail)) (by decide) (fun _ => rfl)) rfl (by omega)).q ?_ | refine l_q (by decide) (r_index Try.underlying22 inf_9 rfl rfl rfl (by first | exact .fact (by repeat (first | exact List.Mem.head _ | apply List.Mem.tail)) | exact .own (by repeat (first | exact List.Mem.head _ | apply List.Mem.tail)) (by decide) (fun _ => rfl)) rfl (by decide)).q ?_
        first | refine l_q (by decide) (r_loado Try.underlying9 rfl rfl (by repeat (first | exact List.Mem.head _ | apply List.Mem.tail)) (by rfl)).q ?_ | refine l_q (by decide) (r_load1 Try.underlying9 rfl rfl (by first | exact .fact (by repeat (first | exact List.Mem.head _ | apply List.Mem.tail)) | exact .own (by repeat (first | exact List.Mem.head _ | apply List.Mem.tail)) (by decide) (fun _ => rfl)) (by first | assumption | rfl) (by rfl)).q ?_ | refine l_q (by decide) (r_loadf Try.underlying9 rfl rfl (by first | exact .fact (by repeat (first | exact List.Mem.head _ | apply List.Mem.tail)) | exact .own (by repeat (first | exact List.Mem.head _ | apply List.Mem.tail)) (by decide) (fun _ => rfl)) (by assumption) (by rfl)).q ?_
        refine l_q (by decide) (p_len_str Try.underlying9 rfl).q ?_
        first | refine l_q (by decide) (p_add rfl rfl rfl rfl (by show _ ≤ (9223372036854775807 : Nat); omega)).q ?_ | refine l_q (by decide) (p_addi rfl rfl (by show (-9223372036854775808 : Int) ≤ _; omega) (by show _ ≤ ((9223372036854775807 : Nat) : Int); omega)).q ?_
        refine l_q (by decide) (p_assign rfl).q ?_
        refine l_nil ?_
        refine c_reg ?_
        refine l_q (by decide) (p_move rfl).q ?_
        first | refine l_q (by decide) (p_add (j := 1) rfl rfl rfl rfl (by show _ ≤ (9223372036854775807 : Nat); omega)).q ?_ | refine l_q (by decide) (p_addi rfl rfl (by show (-9223372036854775808 : Int) ≤ _; omega) (by show _ ≤ ((9223372036854775807 : Nat) : Int); omega)).q ?_
        refine l_q (by decide) (p_assign rfl).q ?_
        refine l_nil ?_
        refine c_join ((k + 1), (e + 8 + r.length)) ?_ ?_ ?_ ?_
        · show ((k + 1) ≤ l.length ∧ (k + 1) ≤ Wal.fits l at_ ∧ (e + 8 + r.length) = (Wal.enc (l.take (k + 1))).length) ∧ l.length - (k + 1) < l.length - k
          have := enc_one l k r hr
          exact ⟨⟨by omega, by omega, by omega⟩, by omega⟩
        · show SubL [(0, .slice A l.length c), (6, .int .i64 (at_ : Int)), (7, .slice A28 (l.take (Wal.fits l at_)).length c28), (8, .int .i64 ((Wal.enc (l.take (Wal.fits l at_))).length : Int)), (9, .int .i64 ((k + 1) : Int)), (10, .int .i64 ((e + 8 + r.length) : Int))] _
          exact ⟨rfl, rfl, rfl, rfl, rfl, rfl, trivial⟩
        · show List.Perm _ []
          exact .refl _
        · simp
      · skip
        have hend : Wal.fits l at_ = k := by omega
        refine c_exit ?_
        refine c_here ?_
        refine c_seq ?_
        refine c_reg ?_
        refine l_q (by decide) (p_move rfl).q ?_
        refine l_q (by decide) (p_move rfl).q ?_
        refine l_q (by decide) (p_move rfl).q ?_
        first | refine l_q (by decide) (p_part_h Try.underlying22 inf_9 rfl rfl rfl (by omega) (by omega)).q ?_ | refine l_q (by decide) (p_slices_h Try.underlying22 inf_9 rfl rfl rfl (by omega)).q ?_
        refine l_q (by decide) (q_call call_18 rfl (fun w hs => same_refl A28 (subA A c 0 1) c28 c (l.take (Wal.fits l at_)) (l.take k) (by rw [hend]) (by simp only [List.length_take]; omega) w (hs.facts (Sl 1 strF A28 (l.take (Wal.fits l at_))) (by repeat (first | exact List.Mem.head _ | apply List.Mem.tail))).1 (part_fact hs c k hc (by repeat (first | exact List.Mem.head _ | apply List.Mem.tail))))) ?_
        refine l_q (by decide) (p_move rfl).q ?_
        refine l_g (j := 5) rfl rfl (by decide) (p_move rfl).q ?_
        refine l_g (j := 5) rfl rfl (by decide) (p_move rfl).q ?_
        first | refine l_g (j := 5) rfl rfl (by decide) (((p_eql rfl rfl rfl rfl)).to (u := .bool true) (by rw [he, hend]; simp)).q ?_ | refine l_g (j := 5) rfl rfl (by decide) (((p_eqli rfl rfl)).to (u := .bool true) (by rw [he, hend]; simp)).q ?_
        refine l_q (by decide) (p_pick rfl rfl).q ?_
        refine l_q (by decide) (p_assign rfl).q ?_
        refine l_nil ?_
        refine c_ret ?_
        refine c_ret1 rfl rfl (fun w hs => ?_)
        exact ⟨rfl, hs.ext⟩
    · skip
      have hend : Wal.fits l at_ = k := by have := Wal.fits_le l at_; omega
      refine l_off (j := 4) rfl rfl (by first | simp | simp [undef]) (by decide) ?_
      refine l_off (j := 4) rfl rfl (by first | simp | simp [undef]) (by decide) ?_
      refine l_off (j := 4) rfl rfl (by first | simp | simp [undef]) (by decide) ?_
      refine l_off (j := 4) rfl rfl (by first | simp | simp [undef]) (by decide) ?_
      refine l_off (j := 4) rfl rfl (by first | simp | simp [undef]) (by decide) ?_
      refine l_off (j := 4) rfl rfl (by first | simp | simp [undef]) (by decide) ?_
      refine l_off (j := 4) rfl rfl (by first | simp | simp [undef]) (by decide) ?_
      refine l_off (j := 4) rfl rfl (by first | simp | simp [undef]) (by decide) ?_
      refine l_off (j := 4) rfl rfl (by first | simp | simp [undef]) (by decide) ?_
      refine l_off (j := 4) rfl rfl (by first | simp | simp [undef]) (by decide) ?_
      refine l_q (by decide) (p_pick rfl rfl).q ?_
      refine l_nil ?_
      refine c_false rfl ?_
      refine c_exit ?_
      refine c_here ?_
      refine c_seq ?_
      refine c_reg ?_
      refine l_q (by decide) (p_move rfl).q ?_
      refine l_q (by decide) (p_move rfl).q ?_
      refine l_q (by decide) (p_move rfl).q ?_
      first | refine l_q (by decide) (p_part_h Try.underlying22 inf_9 rfl rfl rfl (by omega) (by omega)).q ?_ | refine l_q (by decide) (p_slices_h Try.underlying22 inf_9 rfl rfl rfl (by omega)).q ?_
      refine l_q (by decide) (q_call call_18 rfl (fun w hs => same_refl A28 (subA A c 0 1) c28 c (l.take (Wal.fits l at_)) (l.take k) (by rw [hend]) (by simp only [List.length_take]; omega) w (hs.facts (Sl 1 strF A28 (l.take (Wal.fits l at_))) (by repeat (first | exact List.Mem.head _ | apply List.Mem.tail))).1 (part_fact hs c k hc (by repeat (first | exact List.Mem.head _ | apply List.Mem.tail))))) ?_
      refine l_q (by decide) (p_move rfl).q ?_
      refine l_g (j := 5) rfl rfl (by decide) (p_move rfl).q ?_
      refine l_g (j := 5) rfl rfl (by decide) (p_move rfl).q ?_
      first | refine l_g (j := 5) rfl rfl (by decide) (((p_eql rfl rfl rfl rfl)).to (u := .bool true) (by rw [he, hend]; simp)).q ?_ | refine l_g (j := 5) rfl rfl (by decide) (((p_eqli rfl rfl)).to (u := .bool true) (by rw [he, hend]; simp)).q ?_
      refine l_q (by decide) (p_pick rfl rfl).q ?_
      refine l_q (by decide) (p_assign rfl).q ?_
      refine l_nil ?_
      refine c_ret ?_
      refine c_ret1 rfl rfl (fun w hs => ?_)
      exact ⟨rfl, hs.ext⟩

theorem law7_ok (A : Option Addr) (c : Nat) (l : List (List UInt8)) (hl : l.length < 140737488355328) (hsz : ∀ r, r ∈ l → r.length < 140737488355328) (hc : l.length ≤ c) (at_ : Nat) (hat : at_ < 65536) (ch : UInt8) (w : World) (hq : Sl 1 strF A l w) :
    Calls Try.prog 7 #[.slice A l.length c, .int .u16 (at_ : Int), .int .u8 (ch.toNat : Int)] w (Ret fun v w' => v = .bool true ∧ Ext [] w w') := by
  refine calls_fx (l := [.slice A l.length c, .int .u16 (at_ : Int), .int .u8 (ch.toNat : Int)]) Try.func7 rfl Try.ntmps7 (Nat.le_of_ble_eq_true rfl) ((St.start w).old hq (dep_sl (by decide) hq)) ?_
  refine c_seq ?_
  refine c_reg ?_
  refine l_q (by decide) (p_assign rfl).q ?_
  refine l_nil ?_
  refine c_seq ?_
  refine c_seq ?_
  refine c_reg ?_
  refine l_q (by decide) (q_call call_10 rfl (fun w hs => awake_ok w)) ?_
  refine l_q (by decide) (p_not rfl).q ?_
  refine l_nil ?_
  refine c_false rfl ?_
  refine c_skip ?_
  refine c_seq ?_
  refine c_seq ?_
  refine c_reg ?_
  refine l_q (by decide) (p_move rfl).q ?_
  refine l_q (by decide) (q_call call_11 rfl (fun w hs => few_ok A c l hl hsz w (hs.facts (Sl 1 strF A (l)) (by repeat (first | exact List.Mem.head _ | apply List.Mem.tail))).1)) ?_
  first | refine l_q (by decide) (p_notd rfl).q ?_ | refine l_q (by decide) (p_not rfl).q ?_
  refine l_q (by decide) (p_move rfl).q ?_
  first | refine l_splitd (t := 19) rfl (fun h19 => ?_) (fun h19 => ?_) | refine l_splitb (t := 19) rfl (fun h19 => ?_) (fun h19 => ?_)
  · skip
    refine l_off (j := 3) rfl rfl (by first | simp | simp [undef]) (by decide) ?_
    refine l_off (j := 3) rfl rfl (by first | simp | simp [undef]) (by decide) ?_
    refine l_off (j := 3) rfl rfl (by first | simp | simp [undef]) (by decide) ?_
    refine l_q (by decide) (p_pick rfl rfl).q ?_
    refine l_q (by decide) (p_move rfl).q ?_
    refine l_off (j := 8) rfl rfl (by first | simp | simp [undef]) (by decide) ?_
    refine l_off (j := 8) rfl rfl (by first | simp | simp [undef]) (by decide) ?_
    refine l_q (by decide) (p_pick rfl rfl).q ?_
    refine l_nil ?_
    refine c_true rfl ?_
    refine c_seq ?_
    refine c_reg ?_
    refine l_q (by decide) (p_assign rfl).q ?_
    refine l_nil ?_
    refine c_ret ?_
    refine c_ret1 rfl rfl (fun w hs => ?_)
    exact ⟨rfl, hs.ext⟩
  · skip
    have hf : Wal.few l = true := by simpa using h19
    have hf1 := Wal.few_le hf
    have hf2 := Wal.few_enc hf
    have hf3 := Wal.few_short hf
    refine l_g (j := 3) rfl rfl (by decide) (p_move rfl).q ?_
    refine l_g (j := 3) rfl rfl (by decide) (p_len_sl Try.underlying22 rfl).q ?_
    first | refine l_g (j := 3) rfl rfl (by decide) (p_eql (j := 0) rfl rfl rfl rfl).q ?_ | refine l_g (j := 3) rfl rfl (by decide) (p_eqli rfl rfl).q ?_
    refine l_q (by decide) (p_pick rfl rfl).q ?_
    refine l_q (by decide) (p_move rfl).q ?_
    first | refine l_splitd (t := 24) rfl (fun h24 => ?_) (fun h24 => ?_) | refine l_splitb (t := 24) rfl (fun h24 => ?_) (fun h24 => ?_)
    · skip
      refine l_off (j := 8) rfl rfl (by first | simp | simp [undef]) (by decide) ?_
      refine l_off (j := 8) rfl rfl (by first | simp | simp [undef]) (by decide) ?_
      refine l_q (by decide) (p_pick rfl rfl).q ?_
      refine l_nil ?_
      refine c_true rfl ?_
      refine c_seq ?_
      refine c_reg ?_
      refine l_q (by decide) (p_assign rfl).q ?_
      refine l_nil ?_
      refine c_ret ?_
      refine c_ret1 rfl rfl (fun w hs => ?_)
      exact ⟨rfl, hs.ext⟩
    · skip
      refine l_g (j := 8) rfl rfl (by decide) (p_move rfl).q ?_
      first | refine l_g (j := 8) rfl rfl (by decide) (p_eql (j := 0) rfl rfl rfl rfl).q ?_ | refine l_g (j := 8) rfl rfl (by decide) (p_eqli rfl rfl).q ?_
      refine l_q (by decide) (p_pick rfl rfl).q ?_
      refine l_nil ?_
      first | refine c_dec rfl (fun h27 => ?_) (fun h27 => ?_) | refine c_cond rfl (fun h27 => ?_) (fun h27 => ?_)
      · skip
        refine c_seq ?_
        refine c_reg ?_
        refine l_q (by decide) (p_assign rfl).q ?_
        refine l_nil ?_
        refine c_ret ?_
        refine c_ret1 rfl rfl (fun w hs => ?_)
        exact ⟨rfl, hs.ext⟩
      · skip
        have h24 : ¬ l.length = 0 := h24
        have h27 : ¬ ch.toNat = 0 := h27
        have hpos : 0 < (Wal.enc l).length := by have := Wal.length_enc l; omega
        have hch := ch.toNat_lt
        refine c_skip ?_
        refine c_seq ?_
        refine c_reg ?_
        refine l_q (by decide) (p_move rfl).q ?_
        refine l_q (by decide) (q_call call_12 rfl (fun w hs => encode_ok A c (l) (by omega) (by omega) w (hs.facts (Sl 1 strF A (l)) (by repeat (first | exact List.Mem.head _ | apply List.Mem.tail))).1)) ?_
        refine l_q (by decide) (p_assign rfl).q ?_
        refine l_nil ?_
        refine c_seq ?_
        refine c_seq ?_
        refine c_reg ?_
        refine l_q (by decide) (p_move rfl).q ?_
        refine l_q (by decide) (p_move rfl).q ?_
        refine l_q (by decide) (q_call call_13 rfl (fun w hs => encode2_ok A c l (by omega) (by omega) w (hs.facts (Sl 1 strF A (l)) (by repeat (first | exact List.Mem.head _ | apply List.Mem.tail))).1)) ?_
        refine l_q (by decide) (((p_neqs rfl rfl)).to (u := .bool false) (by simp)).q ?_
        refine l_nil ?_
        refine c_false rfl ?_
        refine c_skip ?_
        refine c_seq ?_
        refine c_reg ?_
        refine l_q (by decide) (p_move rfl).q ?_
        refine l_q (by decide) (p_convn Try.underlying32 Try.underlying3 rfl rfl (by show _ ≤ (9223372036854775807 : Nat); omega)).q ?_
        refine l_q (by decide) (p_move rfl).q ?_
        refine l_q (by decide) (p_len_str Try.underlying9 rfl).q ?_
        refine l_q (by decide) (p_rem rfl rfl rfl rfl (by omega)).q ?_
        refine l_q (by decide) (p_assign rfl).q ?_
        refine l_nil ?_
        refine c_seq ?_
        have hi : at_ % (Wal.enc l).length < (Wal.enc l).length := Nat.mod_lt _ hpos
        generalize at_ % (Wal.enc l).length = i at *
        refine c_reg ?_
        refine l_q (by decide) (p_assign (v := .int .i64 ((0 : Nat) : Int)) rfl).q ?_
        refine l_q (by decide) (p_assign (v := .int .i64 ((0 : Nat) : Int)) rfl).q ?_
        refine l_nil ?_
        refine c_seq ?_
        refine c_block ?_
        refine c_loop (S := Nat × Nat) (fun s => s.1 ≤ l.length ∧ s.2 = (Wal.enc (l.take s.1)).length ∧ s.2 ≤ i) (fun s => l.length - s.1) (fun s => [(0, .slice A l.length c), (2, .int .u8 (ch.toNat : Int)), (7, str (Wal.enc l)), (8, .int .i64 (i : Int)), (9, .int .i64 (s.1 : Int)), (10, .int .i64 (s.2 : Int))]) (fun s => []) (fun s => [Sl 1 strF A l]) (0, 0) ?_ ?_ ?_ ?_ ?_
        · show (0) ≤ l.length ∧ (0) = (Wal.enc (l.take (0))).length ∧ (0) ≤ i
          exact ⟨Nat.zero_le _, rfl, Nat.zero_le _⟩
        · exact ⟨rfl, rfl, rfl, rfl, rfl, rfl, trivial⟩
        · exact .refl _
        · simp
        rintro ⟨k, e⟩ hinv
        have hinv : k ≤ l.length ∧ e = (Wal.enc (l.take k)).length ∧ e ≤ i := hinv
        obtain ⟨hk, he, hei⟩ := hinv
        have hkl : k < l.length := by
          rcases Nat.lt_or_ge k l.length with h | h
          · exact h
          · rw [List.take_of_length_le h] at he; omega
        obtain ⟨r, hr⟩ : ∃ r, l[k]? = some r := ⟨_, List.getElem?_eq_getElem hkl⟩
        have hrl := hsz r (List.mem_of_getElem? hr)
        have hone := enc_one l k r hr
        have hek := Wal.enc_take_le l (k + 1)
        show Cont _ _ _ _ [(0, .slice A l.length c), (2, .int .u8 (ch.toNat : Int)), (7, str (Wal.enc l)), (8, .int .i64 (i : Int)), (9, .int .i64 (k : Int)), (10, .int .i64 (e : Int))] [] [Sl 1 strF A l]
        refine c_seq ?_
        refine c_seq ?_
        refine c_reg ?_
        refine l_q (by decide) (p_move rfl).q ?_
        first | refine l_q (by decide) (p_add (j := 8) rfl rfl rfl rfl (by show _ ≤ (9223372036854775807 : Nat); omega)).q ?_ | refine l_q (by decide) (p_addi rfl rfl (by show (-9223372036854775808 : Int) ≤ _; omega) (by show _ ≤ ((9223372036854775807 : Nat) : Int); omega)).q ?_
        refine l_q (by decide) (p_move rfl).q ?_
        refine l_q (by decide) (p_move rfl).q ?_
        first | refine l_q (by decide) (r_index Try.underlying22 inf_9 rfl rfl rfl (by first | exact .fact (by repeat (first | exact List.Mem.head _ | apply List.Mem.tail)) | exact .own (by repeat (first | exact List.Mem.head _ | apply List.Mem.tail)) (by decide) (fun _ => rfl)) rfl (by omega)).q ?_ | refine l_q (by decide) (r_index Try.underlying22 inf_9 rfl rfl rfl (by first | exact .fact (by repeat (first | exact List.Mem.head _ | apply List.Mem.tail)) | exact .own (by repeat (first | exact List.Mem.head _ | apply List.Mem.tail)) (by decide) (fun _ => rfl)) rfl (by decide)).q ?_
        first | refine l_q (by decide) (r_loado Try.underlying9 rfl rfl (by repeat (first | exact List.Mem.head _ | apply List.Mem.tail)) (by rfl)).q ?_ | refine l_q (by decide) (r_load1 Try.underlying9 rfl rfl (by first | exact .fact (by repeat (first | exact List.Mem.head _ | apply List.Mem.tail)) | exact .own (by repeat (first | exact List.Mem.head _ | apply List.Mem.tail)) (by decide) (fun _ => rfl)) (by first | assumption | rfl) (by rfl)).q ?_ | refine l_q (by decide) (r_loadf Try.underlying9 rfl rfl (by first | exact .fact (by repeat (first | exact List.Mem.head _ | apply List.Mem.tail)) | exact .own (by repeat (first | exact List.Mem.head _ | apply List.Mem.tail)) (by decide) (fun _ => rfl)) (by assumption) (by rfl)).q ?_
        refine l_q (by decide) (p_len_str Try.underlying9 rfl).q ?_
        first | refine l_q (by decide) (p_add rfl rfl rfl rfl (by show _ ≤ (9223372036854775807 : Nat); omega)).q ?_ | refine l_q (by decide) (p_addi rfl rfl (by show (-9223372036854775808 : Int) ≤ _; omega) (by show _ ≤ ((9223372036854775807 : Nat) : Int); omega)).q ?_
        refine l_q (by decide) (p_move rfl).q ?_
        first | refine l_q (by decide) (p_leq rfl rfl rfl rfl).q ?_ | refine l_q (by decide) (p_leqi rfl rfl).q ?_
        refine l_nil ?_
        first | refine c_dec rfl (fun h48 => ?_) (fun h48 => ?_) | refine c_cond rfl (fun h48 => ?_) (fun h48 => ?_)
        · skip
          refine c_skip ?_
          refine c_block ?_
          refine c_seq ?_
          refine c_reg ?_
          refine l_q (by decide) (p_move rfl).q ?_
          first | refine l_q (by decide) (p_add (j := 8) rfl rfl rfl rfl (by show _ ≤ (9223372036854775807 : Nat); omega)).q ?_ | refine l_q (by decide) (p_addi rfl rfl (by show (-9223372036854775808 : Int) ≤ _; omega) (by show _ ≤ ((9223372036854775807 : Nat) : Int); omega)).q ?_
          refine l_q (by decide) (p_move rfl).q ?_
          refine l_q (by decide) (p_move rfl).q ?_
          first | refine l_q (by decide) (r_index Try.underlying22 inf_9 rfl rfl rfl (by first | exact .fact (by repeat (first | exact List.Mem.head _ | apply List.Mem.tail)) | exact .own (by repeat (first | exact List.Mem.head _ | apply List.Mem.tail)) (by decide) (fun _ => rfl)) rfl (by omega)).q ?_ | refine l_q (by decide) (r_index Try.underlying22 inf_9 rfl rfl rfl (by first | exact .fact (by repeat (first | exact List.Mem.head _ | apply List.Mem.tail)) | exact .own (by repeat (first | exact List.Mem.head _ | apply List.Mem.tail)) (by decide) (fun _ => rfl)) rfl (by decide)).q ?_
          first | refine l_q (by decide) (r_loado Try.underlying9 rfl rfl (by repeat (first | exact List.Mem.head _ | apply List.Mem.tail)) (by rfl)).q ?_ | refine l_q (by decide) (r_load1 Try.underlying9 rfl rfl (by first | exact .fact (by repeat (first | exact List.Mem.head _ | apply List.Mem.tail)) | exact .own (by repeat (first | exact List.Mem.head _ | apply List.Mem.tail)) (by decide) (fun _ => rfl)) (by first | assumption | rfl) (by rfl)).q ?_ | refine l_q (by decide) (r_loadf Try.underlying9 rfl rfl (by first | exact .fact (by repeat (first | exact List.Mem.head _ | apply List.Mem.tail)) | exact .own (by repeat (first | exact List.Mem.head _ | apply List.Mem.tail)) (by decide) (fun _ => rfl)) (by assumption) (by rfl)).q ?_
          refine l_q (by decide) (p_len_str Try.underlying9 rfl).q ?_
          first | refine l_q (by decide) (p_add rfl rfl rfl rfl (by show _ ≤ (9223372036854775807 : Nat); omega)).q ?_ | refine l_q (by decide) (p_addi rfl rfl (by show (-9223372036854775808 : Int) ≤ _; omega) (by show _ ≤ ((9223372036854775807 : Nat) : Int); omega)).q ?_
          refine l_q (by decide) (p_assign rfl).q ?_
          refine l_nil ?_
          refine c_reg ?_
          refine l_q (by decide) (p_move rfl).q ?_
          first | refine l_q (by decide) (p_add (j := 1) rfl rfl rfl rfl (by show _ ≤ (9223372036854775807 : Nat); omega)).q ?_ | refine l_q (by decide) (p_addi rfl rfl (by show (-9223372036854775808 : Int) ≤ _; omega) (by show _ ≤ ((9223372036854775807 : Nat) : Int); omega)).q ?_
          refine l_q (by decide) (p_assign rfl).q ?_
          refine l_nil ?_
          refine c_join ((k + 1), (e + 8 + r.length)) ?_ ?_ ?_ ?_
          · show ((k + 1) ≤ l.length ∧ (e + 8 + r.length) = (Wal.enc (l.take (k + 1))).length ∧ (e + 8 + r.length) ≤ i) ∧ l.length - (k + 1) < l.length - k
            have h48 : e + 8 + r.length ≤ i := h48
            exact ⟨⟨by omega, by omega, by omega⟩, by omega⟩
          · show SubL [(0, .slice A l.length c), (2, .int .u8 (ch.toNat : Int)), (7, str (Wal.enc l)), (8, .int .i64 (i : Int)), (9, .int .i64 ((k + 1) : Int)), (10, .int .i64 ((e + 8 + r.length) : Int))] _
            exact ⟨rfl, rfl, rfl, rfl, rfl, rfl, trivial⟩
          · show List.Perm _ []
            exact .refl _
          · simp
        · skip
          have h48 : ¬ e + 8 + r.length ≤ i := h48
          refine c_exit ?_
          refine c_here ?_
          refine c_seq ?_
          refine c_seq ?_
          refine c_reg ?_
          refine l_q (by decide) (p_move rfl).q ?_
          refine l_q (by decide) (p_move rfl).q ?_
          first | refine l_q (by decide) (p_add (j := 4) rfl rfl rfl rfl (by show _ ≤ (9223372036854775807 : Nat); omega)).q ?_ | refine l_q (by decide) (p_addi rfl rfl (by show (-9223372036854775808 : Int) ≤ _; omega) (by show _ ≤ ((9223372036854775807 : Nat) : Int); omega)).q ?_
          first | refine l_q (by decide) (p_lss rfl rfl rfl rfl).q ?_ | refine l_q (by decide) (p_lssi rfl rfl).q ?_
          refine l_nil ?_
          first | refine c_dec rfl (fun h62 => ?_) (fun h62 => ?_) | refine c_cond rfl (fun h62 => ?_) (fun h62 => ?_)
          · skip
            refine c_seq ?_
            refine c_reg ?_
            refine l_q (by decide) (p_assign rfl).q ?_
            refine l_nil ?_
            refine c_ret ?_
            refine c_ret1 rfl rfl (fun w hs => ?_)
            exact ⟨rfl, hs.ext⟩
          · skip
            have h62 : ¬ i < e + 4 := h62
            obtain ⟨u, hu⟩ : ∃ u, (Wal.enc l)[i]? = some u := ⟨_, List.getElem?_eq_getElem hi⟩
            have lu := u.toNat_lt
            have hx : u.toNat ^^^ ch.toNat < 256 := Nat.xor_lt_two_pow (n := 8) lu hch
            have hne : u ≠ UInt8.ofNat (u.toNat ^^^ ch.toNat) := fun h => h27 (by
              have h1 : u.toNat = u.toNat ^^^ ch.toNat := by rw (occs := .pos [1]) [h]; rw [UInt8.toNat_ofNat_of_lt' (by simpa using hx)]
              exact (Wal.xor_cancel_l u.toNat 0 ch.toNat (by rw [Nat.xor_zero]; exact h1)).symm)
            refine c_skip ?_
            refine c_seq ?_
            refine h_draw mixed ?_
            refine h_take 0 rfl (by kernel_rfl) (by kernel_rfl) (by kernel_rfl) (by decide) (by first | exact (List.Perm.refl _ : List.Perm _ ([] ++ _)) | exact (List.Perm.refl _ : List.Perm _ ([_] ++ _)) | exact (List.Perm.refl _ : List.Perm _ ([_, _] ++ _))) (by first | exact fun _ h => h | exact fun _ h => List.mem_cons_of_mem _ h | exact fun _ h => List.mem_cons_of_mem _ (List.mem_cons_of_mem _ h)) (p_move rfl).r ?_
            refine h_take 1 rfl (by kernel_rfl) (by kernel_rfl) (by kernel_rfl) (by decide) (by first | exact (List.Perm.refl _ : List.Perm _ ([] ++ _)) | exact (List.Perm.refl _ : List.Perm _ ([_] ++ _)) | exact (List.Perm.refl _ : List.Perm _ ([_, _] ++ _))) (by first | exact fun _ h => h | exact fun _ h => List.mem_cons_of_mem _ h | exact fun _ h => List.mem_cons_of_mem _ (List.mem_cons_of_mem _ h)) (p_move rfl).r ?_
            first | refine h_take 2 rfl (by kernel_rfl) (by kernel_rfl) (by kernel_rfl) (by decide) (by first | exact (List.Perm.refl _ : List.Perm _ ([] ++ _)) | exact (List.Perm.refl _ : List.Perm _ ([_] ++ _)) | exact (List.Perm.refl _ : List.Perm _ ([_, _] ++ _))) (by first | exact fun _ h => h | exact fun _ h => List.mem_cons_of_mem _ h | exact fun _ h => List.mem_cons_of_mem _ (List.mem_cons_of_mem _ h)) (p_slice_h Try.underlying9 rfl rfl rfl (by omega)).r ?_ | refine h_take 2 rfl (by kernel_rfl) (by kernel_rfl) (by kernel_rfl) (by decide) (by first | exact (List.Perm.refl _ : List.Perm _ ([] ++ _)) | exact (List.Perm.refl _ : List.Perm _ ([_] ++ _)) | exact (List.Perm.refl _ : List.Perm _ ([_, _] ++ _))) (by first | exact fun _ h => h | exact fun _ h => List.mem_cons_of_mem _ h | exact fun _ h => List.mem_cons_of_mem _ (List.mem_cons_of_mem _ h)) (p_slice_h Try.underlying9 rfl rfl rfl (by simp; omega)).r ?_
            refine h_take 3 rfl (by kernel_rfl) (by kernel_rfl) (by kernel_rfl) (by decide) (by first | exact (List.Perm.refl _ : List.Perm _ ([] ++ _)) | exact (List.Perm.refl _ : List.Perm _ ([_] ++ _)) | exact (List.Perm.refl _ : List.Perm _ ([_, _] ++ _))) (by first | exact fun _ h => h | exact fun _ h => List.mem_cons_of_mem _ h | exact fun _ h => List.mem_cons_of_mem _ (List.mem_cons_of_mem _ h)) (p_move rfl).r ?_
            refine h_take 4 rfl (by kernel_rfl) (by kernel_rfl) (by kernel_rfl) (by decide) (by first | exact (List.Perm.refl _ : List.Perm _ ([] ++ _)) | exact (List.Perm.refl _ : List.Perm _ ([_] ++ _)) | exact (List.Perm.refl _ : List.Perm _ ([_, _] ++ _))) (by first | exact fun _ h => h | exact fun _ h => List.mem_cons_of_mem _ h | exact fun _ h => List.mem_cons_of_mem _ (List.mem_cons_of_mem _ h)) (p_move rfl).r ?_
            first | refine h_take 5 rfl (by kernel_rfl) (by kernel_rfl) (by kernel_rfl) (by decide) (by first | exact (List.Perm.refl _ : List.Perm _ ([] ++ _)) | exact (List.Perm.refl _ : List.Perm _ ([_] ++ _)) | exact (List.Perm.refl _ : List.Perm _ ([_, _] ++ _))) (by first | exact fun _ h => h | exact fun _ h => List.mem_cons_of_mem _ h | exact fun _ h => List.mem_cons_of_mem _ (List.mem_cons_of_mem _ h)) (p_index_str Try.underlying9 rfl rfl rfl (by assumption)).r ?_ | refine h_take 5 rfl (by kernel_rfl) (by kernel_rfl) (by kernel_rfl) (by decide) (by first | exact (List.Perm.refl _ : List.Perm _ ([] ++ _)) | exact (List.Perm.refl _ : List.Perm _ ([_] ++ _)) | exact (List.Perm.refl _ : List.Perm _ ([_, _] ++ _))) (by first | exact fun _ h => h | exact fun _ h => List.mem_cons_of_mem _ h | exact fun _ h => List.mem_cons_of_mem _ (List.mem_cons_of_mem _ h)) (p_index_str Try.underlying9 rfl rfl rfl (by simp; rfl)).r ?_
            refine h_take 6 rfl (by kernel_rfl) (by kernel_rfl) (by kernel_rfl) (by decide) (by first | exact (List.Perm.refl _ : List.Perm _ ([] ++ _)) | exact (List.Perm.refl _ : List.Perm _ ([_] ++ _)) | exact (List.Perm.refl _ : List.Perm _ ([_, _] ++ _))) (by first | exact fun _ h => h | exact fun _ h => List.mem_cons_of_mem _ h | exact fun _ h => List.mem_cons_of_mem _ (List.mem_cons_of_mem _ h)) (p_move rfl).r ?_
            refine h_take 7 rfl (by kernel_rfl) (by kernel_rfl) (by kernel_rfl) (by decide) (by first | exact (List.Perm.refl _ : List.Perm _ ([] ++ _)) | exact (List.Perm.refl _ : List.Perm _ ([_] ++ _)) | exact (List.Perm.refl _ : List.Perm _ ([_, _] ++ _))) (by first | exact fun _ h => h | exact fun _ h => List.mem_cons_of_mem _ h | exact fun _ h => List.mem_cons_of_mem _ (List.mem_cons_of_mem _ h)) (p_xor rfl rfl rfl rfl (by show _ ≤ (255 : Nat); omega) (by show _ ≤ (255 : Nat); omega)).r ?_
            refine h_take 11 rfl (by kernel_rfl) (by kernel_rfl) (by kernel_rfl) (by decide) (by first | exact (List.Perm.refl _ : List.Perm _ ([] ++ _)) | exact (List.Perm.refl _ : List.Perm _ ([_] ++ _)) | exact (List.Perm.refl _ : List.Perm _ ([_, _] ++ _))) (by first | exact fun _ h => h | exact fun _ h => List.mem_cons_of_mem _ h | exact fun _ h => List.mem_cons_of_mem _ (List.mem_cons_of_mem _ h)) (p_move rfl).r ?_
            refine h_take 12 rfl (by kernel_rfl) (by kernel_rfl) (by kernel_rfl) (by decide) (by first | exact (List.Perm.refl _ : List.Perm _ ([] ++ _)) | exact (List.Perm.refl _ : List.Perm _ ([_] ++ _)) | exact (List.Perm.refl _ : List.Perm _ ([_, _] ++ _))) (by first | exact fun _ h => h | exact fun _ h => List.mem_cons_of_mem _ h | exact fun _ h => List.mem_cons_of_mem _ (List.mem_cons_of_mem _ h)) (p_move rfl).r ?_
            first | refine h_take 13 rfl (by kernel_rfl) (by kernel_rfl) (by kernel_rfl) (by decide) (by first | exact (List.Perm.refl _ : List.Perm _ ([] ++ _)) | exact (List.Perm.refl _ : List.Perm _ ([_] ++ _)) | exact (List.Perm.refl _ : List.Perm _ ([_, _] ++ _))) (by first | exact fun _ h => h | exact fun _ h => List.mem_cons_of_mem _ h | exact fun _ h => List.mem_cons_of_mem _ (List.mem_cons_of_mem _ h)) (p_add (j := 1) rfl rfl rfl rfl (by show _ ≤ (9223372036854775807 : Nat); omega)).r ?_ | refine h_take 13 rfl (by kernel_rfl) (by kernel_rfl) (by kernel_rfl) (by decide) (by first | exact (List.Perm.refl _ : List.Perm _ ([] ++ _)) | exact (List.Perm.refl _ : List.Perm _ ([_] ++ _)) | exact (List.Perm.refl _ : List.Perm _ ([_, _] ++ _))) (by first | exact fun _ h => h | exact fun _ h => List.mem_cons_of_mem _ h | exact fun _ h => List.mem_cons_of_mem _ (List.mem_cons_of_mem _ h)) (p_addi rfl rfl (by show (-9223372036854775808 : Int) ≤ _; omega) (by show _ ≤ ((9223372036854775807 : Nat) : Int); omega)).r ?_
            first | refine h_take 14 rfl (by kernel_rfl) (by kernel_rfl) (by kernel_rfl) (by decide) (by first | exact (List.Perm.refl _ : List.Perm _ ([] ++ _)) | exact (List.Perm.refl _ : List.Perm _ ([_] ++ _)) | exact (List.Perm.refl _ : List.Perm _ ([_, _] ++ _))) (by first | exact fun _ h => h | exact fun _ h => List.mem_cons_of_mem _ h | exact fun _ h => List.mem_cons_of_mem _ (List.mem_cons_of_mem _ h)) (p_slice_l Try.underlying9 rfl rfl rfl (by omega)).r ?_ | refine h_take 14 rfl (by kernel_rfl) (by kernel_rfl) (by kernel_rfl) (by decide) (by first | exact (List.Perm.refl _ : List.Perm _ ([] ++ _)) | exact (List.Perm.refl _ : List.Perm _ ([_] ++ _)) | exact (List.Perm.refl _ : List.Perm _ ([_, _] ++ _))) (by first | exact fun _ h => h | exact fun _ h => List.mem_cons_of_mem _ h | exact fun _ h => List.mem_cons_of_mem _ (List.mem_cons_of_mem _ h)) (p_slice_l Try.underlying9 rfl rfl rfl (by simp; omega)).r ?_
            refine h_run 8 rfl (by kernel_rfl) ?_
            refine l_buildSlice (by decide) Try.underlying34 inf_5 (by decide) (by decide) rfl rfl rfl rfl (fun b71 => ?_)
            refine l_nil ?_
            refine h_next _ (by first | exact (List.Perm.refl _ : List.Perm _ ([] ++ _)) | exact (List.Perm.refl _ : List.Perm _ ([_] ++ _)) | exact (List.Perm.refl _ : List.Perm _ ([_, _] ++ _))) (by first | exact fun _ h => h | exact fun _ h => List.mem_cons_of_mem _ h | exact fun _ h => List.mem_cons_of_mem _ (List.mem_cons_of_mem _ h)) ?_
            refine h_run 9 rfl (by kernel_rfl) ?_
            refine l_q (by decide) (r_bytes (l := [UInt8.ofNat (u.toNat ^^^ ch.toNat)]) Try.underlying34 Try.underlying9 Try.underlying5 rfl (by repeat (first | exact List.Mem.head _ | apply List.Mem.tail)) (by simp [bytesV, catL, Value.cells]) rfl).q ?_
            refine l_nil ?_
            refine h_next _ (by first | exact (List.Perm.refl _ : List.Perm _ ([] ++ _)) | exact (List.Perm.refl _ : List.Perm _ ([_] ++ _)) | exact (List.Perm.refl _ : List.Perm _ ([_, _] ++ _))) (by first | exact fun _ h => h | exact fun _ h => List.mem_cons_of_mem _ h | exact fun _ h => List.mem_cons_of_mem _ (List.mem_cons_of_mem _ h)) ?_
            first | refine h_take 10 rfl (by kernel_rfl) (by kernel_rfl) (by kernel_rfl) (by decide) (by first | exact (List.Perm.refl _ : List.Perm _ ([] ++ _)) | exact (List.Perm.refl _ : List.Perm _ ([_] ++ _)) | exact (List.Perm.refl _ : List.Perm _ ([_, _] ++ _))) (by first | exact fun _ h => h | exact fun _ h => List.mem_cons_of_mem _ h | exact fun _ h => List.mem_cons_of_mem _ (List.mem_cons_of_mem _ h)) (p_cat rfl rfl (by omega)).r ?_ | refine h_take 10 rfl (by kernel_rfl) (by kernel_rfl) (by kernel_rfl) (by decide) (by first | exact (List.Perm.refl _ : List.Perm _ ([] ++ _)) | exact (List.Perm.refl _ : List.Perm _ ([_] ++ _)) | exact (List.Perm.refl _ : List.Perm _ ([_, _] ++ _))) (by first | exact fun _ h => h | exact fun _ h => List.mem_cons_of_mem _ h | exact fun _ h => List.mem_cons_of_mem _ (List.mem_cons_of_mem _ h)) (p_cat rfl rfl (by simp; omega)).r ?_
            first | refine h_take 15 rfl (by kernel_rfl) (by kernel_rfl) (by kernel_rfl) (by decide) (by first | exact (List.Perm.refl _ : List.Perm _ ([] ++ _)) | exact (List.Perm.refl _ : List.Perm _ ([_] ++ _)) | exact (List.Perm.refl _ : List.Perm _ ([_, _] ++ _))) (by first | exact fun _ h => h | exact fun _ h => List.mem_cons_of_mem _ h | exact fun _ h => List.mem_cons_of_mem _ (List.mem_cons_of_mem _ h)) (p_cat rfl rfl (by omega)).r ?_ | refine h_take 15 rfl (by kernel_rfl) (by kernel_rfl) (by kernel_rfl) (by decide) (by first | exact (List.Perm.refl _ : List.Perm _ ([] ++ _)) | exact (List.Perm.refl _ : List.Perm _ ([_] ++ _)) | exact (List.Perm.refl _ : List.Perm _ ([_, _] ++ _))) (by first | exact fun _ h => h | exact fun _ h => List.mem_cons_of_mem _ h | exact fun _ h => List.mem_cons_of_mem _ (List.mem_cons_of_mem _ h)) (p_cat rfl rfl (by simp; omega)).r ?_
            refine h_take 16 rfl (by kernel_rfl) (by kernel_rfl) (by kernel_rfl) (by decide) (by first | exact (List.Perm.refl _ : List.Perm _ ([] ++ _)) | exact (List.Perm.refl _ : List.Perm _ ([_] ++ _)) | exact (List.Perm.refl _ : List.Perm _ ([_, _] ++ _))) (by first | exact fun _ h => h | exact fun _ h => List.mem_cons_of_mem _ h | exact fun _ h => List.mem_cons_of_mem _ (List.mem_cons_of_mem _ h)) (p_assign rfl).r ?_
            refine h_done (by kernel_rfl) ?_
            refine c_seq ?_
            refine c_reg ?_
            refine l_q (by decide) (p_move rfl).q ?_
            refine l_call (fun x : Option Addr × Nat => .tuple #[.slice x.1 (l.take k).length x.2, .int .i64 ((e : Nat) : Int)]) (fun x => Sl 1 strF x.1 (l.take k)) (by decide) call_16 rfl (fun w hs => decode_as ((Wal.enc l).take i ++ [UInt8.ofNat (u.toNat ^^^ ch.toNat)] ++ (Wal.enc l).drop (i + 1)) (l.take k) e (bad_ok l hf3 i k _ r hr (by omega) (by omega) u hu hne) he.symm (by simp only [List.length_append, List.length_take, List.length_drop, List.length_cons, List.length_nil]; omega) w) (fun x => ?_)
            obtain ⟨A81, c81⟩ := x
            refine l_q (by decide) (p_move rfl).q ?_
            refine l_q (by decide) (p_extract rfl rfl).q ?_
            refine l_q (by decide) (p_extract rfl rfl).q ?_
            refine l_q (by decide) (p_assign rfl).q ?_
            refine l_q (by decide) (p_assign rfl).q ?_
            refine l_nil ?_
            refine c_seq ?_
            refine c_reg ?_
            refine l_q (by decide) (p_move rfl).q ?_
            refine l_q (by decide) (p_move rfl).q ?_
            refine l_q (by decide) (p_move rfl).q ?_
            first | refine l_q (by decide) (p_part_h Try.underlying22 inf_9 rfl rfl rfl (by omega) (by omega)).q ?_ | refine l_q (by decide) (p_slices_h Try.underlying22 inf_9 rfl rfl rfl (by omega)).q ?_
            refine l_q (by decide) (q_call call_18 rfl (fun w hs => same_refl A81 (subA A c 0 1) c81 c (l.take k) (l.take k) rfl (by simp only [List.length_take]; omega) w (hs.facts (Sl 1 strF A81 (l.take k)) (by repeat (first | exact List.Mem.head _ | apply List.Mem.tail))).1 (part_fact hs c k hc (by repeat (first | exact List.Mem.head _ | apply List.Mem.tail))))) ?_
            refine l_q (by decide) (p_move rfl).q ?_
            refine l_g (j := 5) rfl rfl (by decide) (p_move rfl).q ?_
            refine l_g (j := 5) rfl rfl (by decide) (p_move rfl).q ?_
            first | refine l_g (j := 5) rfl rfl (by decide) (((p_eql rfl rfl rfl rfl)).to (u := .bool true) (by simp)).q ?_ | refine l_g (j := 5) rfl rfl (by decide) (((p_eqli rfl rfl)).to (u := .bool true) (by simp)).q ?_
            refine l_q (by decide) (p_pick rfl rfl).q ?_
            refine l_q (by decide) (p_assign rfl).q ?_
            refine l_nil ?_
            refine c_ret ?_
            refine c_ret1 rfl rfl (fun w hs => ?_)
            exact ⟨rfl, hs.ext⟩

theorem law8_ok (log : List UInt8) (hlog : log.length < 140737488355328) (w : World) :
    Calls Try.prog 8 #[str log] w (Ret fun v w' => v = .bool true ∧ Ext [] w w') := by
  refine calls_fx (l := [str log]) Try.func8 rfl Try.ntmps8 (Nat.le_of_ble_eq_true rfl) (St.start w) ?_
  refine c_seq ?_
  refine c_reg ?_
  refine l_q (by decide) (p_assign rfl).q ?_
  refine l_nil ?_
  refine c_seq ?_
  refine c_seq ?_
  refine c_reg ?_
  refine l_q (by decide) (q_call call_10 rfl (fun w hs => awake_ok w)) ?_
  refine l_q (by decide) (p_not rfl).q ?_
  refine l_nil ?_
  refine c_false rfl ?_
  refine c_skip ?_
  refine c_seq ?_
  refine c_seq ?_
  refine c_reg ?_
  refine l_q (by decide) (p_move rfl).q ?_
  refine l_q (by decide) (p_len_str Try.underlying9 rfl).q ?_
  first | refine l_q (by decide) (p_gtr (j := 3000) rfl rfl rfl rfl).q ?_ | refine l_q (by decide) (p_gtri rfl rfl).q ?_
  refine l_nil ?_
  first | refine c_dec rfl (fun h9 => ?_) (fun h9 => ?_) | refine c_cond rfl (fun h9 => ?_) (fun h9 => ?_)
  · skip
    refine c_seq ?_
    refine c_reg ?_
    refine l_q (by decide) (p_assign rfl).q ?_
    refine l_nil ?_
    refine c_ret ?_
    refine c_ret1 rfl rfl (fun w hs => ?_)
    exact ⟨rfl, hs.ext⟩
  · skip
    have h9 : ¬ 3000 < log.length := h9
    have hd1 := Wal.enc_dec_le log
    have hd2 := Wal.length_enc (Wal.dec log)
    refine c_skip ?_
    refine c_seq ?_
    refine c_reg ?_
    refine l_q (by decide) (p_move rfl).q ?_
    refine l_call (fun x : Option Addr × Nat => .tuple #[.slice x.1 (Wal.dec log).length x.2, .int .i64 (((Wal.enc (Wal.dec log)).length : Nat) : Int)]) (fun x => Sl 1 strF x.1 (Wal.dec log)) (by decide) call_16 rfl (fun w hs => decode_as _ _ _ rfl rfl (by omega) w) (fun x => ?_)
    obtain ⟨A12, c12⟩ := x
    refine l_q (by decide) (p_move rfl).q ?_
    refine l_q (by decide) (p_extract rfl rfl).q ?_
    refine l_q (by decide) (p_extract rfl rfl).q ?_
    refine l_q (by decide) (p_assign rfl).q ?_
    refine l_q (by decide) (p_assign rfl).q ?_
    refine l_nil ?_
    refine c_seq ?_
    refine c_draw mixed (by decide +kernel) ?_
    refine q_q (by decide) (p_move rfl).q ?_
    first | refine q_q (by decide) (((p_geq (j := 0) rfl rfl rfl rfl)).to (u := .bool true) (by simp)).q ?_ | refine q_q (by decide) (((p_geqi rfl rfl)).to (u := .bool true) (by simp)).q ?_
    refine q_q (by decide) (p_move rfl).q ?_
    refine q_g (j := 2) rfl rfl (by decide) (p_move rfl).q ?_
    refine q_g (j := 2) rfl rfl (by decide) (p_move rfl).q ?_
    refine q_g (j := 2) rfl rfl (by decide) (p_len_str Try.underlying9 rfl).q ?_
    first | refine q_g (j := 2) rfl rfl (by decide) (((p_leq rfl rfl rfl rfl)).to (u := .bool true) (by simp only [decide_eq_true hd1])).q ?_ | refine q_g (j := 2) rfl rfl (by decide) (((p_leqi rfl rfl)).to (u := .bool true) (by simp only [decide_eq_true hd1])).q ?_
    refine q_q (by decide) (p_pick rfl rfl).q ?_
    refine q_q (by decide) (p_move rfl).q ?_
    refine q_g (j := 8) rfl rfl (by decide) (p_move rfl).q ?_
    refine q_g (j := 8) rfl rfl (by decide) (q_call call_12 rfl (fun w hs => encode_ok A12 c12 (Wal.dec log) (by omega) (by omega) w (hs.facts (Sl 1 strF A12 (Wal.dec log)) (by repeat (first | exact List.Mem.head _ | apply List.Mem.tail))).1)) ?_
    refine q_g (j := 8) rfl rfl (by decide) (p_move rfl).q ?_
    refine q_g (j := 8) rfl rfl (by decide) (p_move rfl).q ?_
    first | refine q_g (j := 8) rfl rfl (by decide) (p_slice_h Try.underlying9 rfl rfl rfl (by omega)).q ?_ | refine q_g (j := 8) rfl rfl (by decide) (p_slice_h Try.underlying9 rfl rfl rfl (by simp; omega)).q ?_
    refine q_g (j := 8) rfl rfl (by decide) (((p_eqs rfl rfl)).to (u := .bool true) (by rw [decide_eq_true (Wal.enc_dec log)])).q ?_
    refine q_q (by decide) (p_pick rfl rfl).q ?_
    refine q_q (by decide) (p_assign rfl).q ?_
    refine q_nil ?_
    refine c_ret ?_
    refine c_ret1 rfl rfl (fun w hs => ?_)
    exact ⟨rfl, hs.ext⟩

theorem law9_ok (A B : Option Addr) (c d : Nat) (a b : List (List UInt8)) (hl : a.length < 140737488355328) (hsz : ∀ r, r ∈ a → r.length < 140737488355328) (hl2 : b.length < 140737488355328) (hsz2 : ∀ r, r ∈ b → r.length < 140737488355328) (w : World) (hq : Sl 1 strF A a w) (hp : Sl 1 strF B b w) :
    Calls Try.prog 9 #[.slice A a.length c, .slice B b.length d] w (Ret fun v w' => v = .bool true ∧ Ext [] w w') := by
  refine calls_fx (l := [.slice A a.length c, .slice B b.length d]) Try.func9 rfl Try.ntmps9 (Nat.le_of_ble_eq_true rfl) (((St.start w).old hq (dep_sl (by decide) hq)).old hp (dep_sl (by decide) hp)) ?_
  refine c_seq ?_
  refine c_reg ?_
  refine l_q (by decide) (p_assign rfl).q ?_
  refine l_nil ?_
  refine c_seq ?_
  refine c_seq ?_
  refine c_reg ?_
  refine l_q (by decide) (q_call call_10 rfl (fun w hs => awake_ok w)) ?_
  refine l_q (by decide) (p_not rfl).q ?_
  refine l_nil ?_
  refine c_false rfl ?_
  refine c_skip ?_
  refine c_seq ?_
  refine c_seq ?_
  refine c_reg ?_
  refine l_q (by decide) (p_move rfl).q ?_
  refine l_q (by decide) (q_call call_11 rfl (fun w hs => few_ok A c a hl hsz w (hs.facts (Sl 1 strF A (a)) (by repeat (first | exact List.Mem.head _ | apply List.Mem.tail))).1)) ?_
  first | refine l_q (by decide) (p_notd rfl).q ?_ | refine l_q (by decide) (p_not rfl).q ?_
  refine l_q (by decide) (p_move rfl).q ?_
  first | refine l_splitd (t := 14) rfl (fun h14 => ?_) (fun h14 => ?_) | refine l_splitb (t := 14) rfl (fun h14 => ?_) (fun h14 => ?_)
  · skip
    refine l_off (j := 3) rfl rfl (by first | simp | simp [undef]) (by decide) ?_
    refine l_off (j := 3) rfl rfl (by first | simp | simp [undef]) (by decide) ?_
    refine l_off (j := 3) rfl rfl (by first | simp | simp [undef]) (by decide) ?_
    refine l_q (by decide) (p_pick rfl rfl).q ?_
    refine l_nil ?_
    refine c_true rfl ?_
    refine c_seq ?_
    refine c_reg ?_
    refine l_q (by decide) (p_assign rfl).q ?_
    refine l_nil ?_
    refine c_ret ?_
    refine c_ret1 rfl rfl (fun w hs => ?_)
    exact ⟨rfl, hs.ext⟩
  · skip
    have hf : Wal.few a = true := by simpa using h14
    have hf1 := Wal.few_le hf
    have hf2 := Wal.few_enc hf
    have hf3 := Wal.few_short hf
    refine l_g (j := 3) rfl rfl (by decide) (p_move rfl).q ?_
    refine l_g (j := 3) rfl rfl (by decide) (q_call call_11 rfl (fun w hs => few_ok B d b hl2 hsz2 w (hs.facts (Sl 1 strF B (b)) (by repeat (first | exact List.Mem.head _ | apply List.Mem.tail))).1)) ?_
    first | refine l_g (j := 3) rfl rfl (by decide) (p_notd rfl).q ?_ | refine l_g (j := 3) rfl rfl (by decide) (p_not rfl).q ?_
    refine l_q (by decide) (p_pick rfl rfl).q ?_
    refine l_nil ?_
    first | refine c_dec rfl (fun h18 => ?_) (fun h18 => ?_) | refine c_cond rfl (fun h18 => ?_) (fun h18 => ?_)
    · skip
      refine c_seq ?_
      refine c_reg ?_
      refine l_q (by decide) (p_assign rfl).q ?_
      refine l_nil ?_
      refine c_ret ?_
      refine c_ret1 rfl rfl (fun w hs => ?_)
      exact ⟨rfl, hs.ext⟩
    · skip
      have hg : Wal.few b = true := by simpa using h18
      have hg1 := Wal.few_le hg
      have hg2 := Wal.few_enc hg
      have hg3 := Wal.few_short hg
      have hab : Wal.dec (Wal.enc a ++ Wal.enc b) = a ++ b := by rw [← Wal.enc_append]; exact Wal.dec_enc _ (fun r hr => (List.mem_append.1 hr).elim (hf3 r) (hg3 r))
      refine c_skip ?_
      refine c_seq ?_
      refine c_reg ?_
      refine l_buildSlice0 (by decide) Try.underlying22 inf_9 (fun b19 => ?_)
      refine l_q (by decide) (p_move rfl).q ?_
      refine l_rowc (size := 1) strF [] rfl rfl (by decide) ?_
      refine l_appendsl a (by decide) Try.underlying22 inf_9 rfl (by decide) rfl rfl rfl rfl (by repeat (first | exact List.Mem.head _ | apply List.Mem.tail)) (fun _ _ h => by simp [strF] at h; subst h; rfl) (by simp; omega) (by simp; omega) (fun A21 c21 => ?_)
      refine l_q (by decide) (p_move rfl).q ?_
      refine l_appendsl b (by decide) Try.underlying22 inf_9 rfl (by decide) rfl rfl rfl rfl (by repeat (first | exact List.Mem.head _ | apply List.Mem.tail)) (fun _ _ h => by simp [strF] at h; subst h; rfl) (by simp; omega) (by simp; omega) (fun A23 c23 => ?_)
      refine l_sealr (by decide) (fun _ => rfl) ?_
      refine l_q (by decide) (p_assign rfl).q ?_
      refine l_nil ?_
      refine c_seq ?_
      refine c_reg ?_
      refine l_q (by decide) (p_move rfl).q ?_
      refine l_q (by decide) (q_call call_12 rfl (fun w hs => encode_ok A c (a) (by omega) (by omega) w (hs.facts (Sl 1 strF A (a)) (by repeat (first | exact List.Mem.head _ | apply List.Mem.tail))).1)) ?_
      refine l_q (by decide) (p_move rfl).q ?_
      refine l_q (by decide) (q_call call_12 rfl (fun w hs => encode_ok B d (b) (by omega) (by omega) w (hs.facts (Sl 1 strF B (b)) (by repeat (first | exact List.Mem.head _ | apply List.Mem.tail))).1)) ?_
      first | refine l_q (by decide) (p_cat rfl rfl (by omega)).q ?_ | refine l_q (by decide) (p_cat rfl rfl (by simp; omega)).q ?_
      refine l_q (by decide) (p_assign rfl).q ?_
      refine l_nil ?_
      refine c_seq ?_
      refine c_reg ?_
      refine l_q (by decide) (p_move rfl).q ?_
      refine l_call (fun x : Option Addr × Nat => .tuple #[.slice x.1 (a ++ b).length x.2, .int .i64 (((Wal.enc a ++ Wal.enc b).length : Nat) : Int)]) (fun x => Sl 1 strF x.1 (a ++ b)) (by decide) call_16 rfl (fun w hs => decode_as _ (a ++ b) (Wal.enc a ++ Wal.enc b).length hab (by rw [Wal.enc_append]) (by simp only [List.length_append]; omega) w) (fun x => ?_)
      obtain ⟨A31, c31⟩ := x
      refine l_q (by decide) (p_move rfl).q ?_
      refine l_q (by decide) (p_extract rfl rfl).q ?_
      refine l_q (by decide) (p_extract rfl rfl).q ?_
      refine l_q (by decide) (p_assign rfl).q ?_
      refine l_q (by decide) (p_assign rfl).q ?_
      refine l_nil ?_
      refine c_seq ?_
      refine c_reg ?_
      refine l_q (by decide) (p_move rfl).q ?_
      refine l_q (by decide) (q_call call_12 rfl (fun w hs => encode_ok A23 c23 (a ++ b) (by simp only [List.length_append]; omega) (by simp only [Wal.enc_append, List.length_append]; omega) w (hs.facts (Sl 1 strF A23 (a ++ b)) (by repeat (first | exact List.Mem.head _ | apply List.Mem.tail))).1)) ?_
      refine l_q (by decide) (p_move rfl).q ?_
      refine l_q (by decide) (((p_eqs rfl rfl)).to (u := .bool true) (by rw [Wal.enc_append]; simp)).q ?_
      refine l_q (by decide) (p_move rfl).q ?_
      refine l_g (j := 4) rfl rfl (by decide) (p_move rfl).q ?_
      refine l_g (j := 4) rfl rfl (by decide) (p_move rfl).q ?_
      refine l_g (j := 4) rfl rfl (by decide) (q_call call_18 rfl (fun w hs => same_refl A31 A23 c31 c23 (a ++ b) (a ++ b) rfl (by simp only [List.length_append]; omega) w (hs.facts (Sl 1 strF A31 (a ++ b)) (by repeat (first | exact List.Mem.head _ | apply List.Mem.tail))).1 (hs.facts (Sl 1 strF A23 (a ++ b)) (by repeat (first | exact List.Mem.head _ | apply List.Mem.tail))).1)) ?_
      refine l_q (by decide) (p_pick rfl rfl).q ?_
      refine l_q (by decide) (p_move rfl).q ?_
      refine l_g (j := 9) rfl rfl (by decide) (p_move rfl).q ?_
      refine l_g (j := 9) rfl rfl (by decide) (p_move rfl).q ?_
      refine l_g (j := 9) rfl rfl (by decide) (p_len_str Try.underlying9 rfl).q ?_
      first | refine l_g (j := 9) rfl rfl (by decide) (((p_eql rfl rfl rfl rfl)).to (u := .bool true) (by simp)).q ?_ | refine l_g (j := 9) rfl rfl (by decide) (((p_eqli rfl rfl)).to (u := .bool true) (by simp)).q ?_
      refine l_q (by decide) (p_pick rfl rfl).q ?_
      refine l_q (by decide) (p_assign rfl).q ?_
      refine l_nil ?_
      refine c_ret ?_
      refine c_ret1 rfl rfl (fun w hs => ?_)
      exact ⟨rfl, hs.ext⟩
end Go.Proofs.Ytjpachkjljmljaa
