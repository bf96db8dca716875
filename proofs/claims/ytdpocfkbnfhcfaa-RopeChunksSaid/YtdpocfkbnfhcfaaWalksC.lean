/- The walks of ropes, third part; conditions: lengths. -/
import Derived.Test.YtdpocfkbnfhcfaaWalksB
namespace Go.Proofs.Ytdpocfkbnfhcfaa
open Go Go.Fx Go.Proofs

theorem walk_ok (t : Option T) : WalkC t := by
  have key : ∀ t : T, WalkC (some t) := fun t => by
    induction t with
    | leaf b s => exact fun b a A c l ha hl ρ w h hm => walk_step _ (fun _ _ _ e => by cases e) b a A c l ha hl ρ w h hm
    | node b x y ihx ihy => exact fun b a A c l ha hl ρ w h hm => walk_step _ (fun _ _ _ e => by injection e with e; injection e with _ e1 e2; subst e1; subst e2; exact ⟨ihx, ihy⟩) b a A c l ha hl ρ w h hm
  cases t with
  | none => exact fun b a A c l ha hl ρ w h hm => walk_step _ (fun _ _ _ e => by cases e) b a A c l ha hl ρ w h hm
  | some t => exact key t
theorem TO.get {m : Option Rope.N} {n : Rope.N} {t : Option T} (h : plO t = m) (e : m = some n) : ∃ u : T, t = some u ∧ u.pl = n := by
  subst h
  cases t with
  | none => cases e
  | some u => injection e with e; exact ⟨u, rfl, e⟩
theorem build_small {s : List UInt8} (h : s.length ≤ 64) : (if s = [] then none else some (Rope.N.leaf s)) = Rope.build s := by
  unfold Rope.build
  split
  · rfl
  · rw [Rope.bld_small h]
theorem build_some {s : List UInt8} (h : s ≠ []) : Rope.build s = some (Rope.bld s) := if_neg h
theorem take_ne {s : List UInt8} (h : 64 < s.length) : s.take (Rope.cut s.length) ≠ [] ∧ s.drop (Rope.cut s.length) ≠ [] := by
  have hc := Rope.cut_lt h
  exact ⟨fun e => by have := congrArg List.length e; simp only [List.length_take, List.length_nil] at this; omega, fun e => by have := congrArg List.length e; simp only [List.length_drop, List.length_nil] at this; omega⟩
theorem build_big {s : List UInt8} (h : ¬ s.length ≤ 64) : Rope.build s = some (.node (Rope.bld (s.take (Rope.cut s.length))) (Rope.bld (s.drop (Rope.cut s.length)))) := by
  rw [build_some (fun e => h (by rw [e]; decide)), Rope.bld_big h]
theorem bld_size (s : List UInt8) : (Rope.bld s).size = s.length := by rw [Rope.N.size, Rope.bld_text]
theorem bld_h {s : List UInt8} (h : s ≠ []) (hl : s.length ≤ 16000) : (Rope.bld s).height ≤ 100 := by have := good_height (Rope.bld_good s h) (by rw [bld_size]; exact hl); omega
def BuildC (s : List UInt8) : Prop := s.length ≤ 16000 → ∀ (σ : Fx.Own) (w : World), St w (keysOf σ) w σ [] → Calls Try.prog 28 #[str s] w (Ret fun v w' => ∃ x : TO (Rope.build s), v = ptrO x.1 ∧ St w (keysOf σ) w' σ [liesO x.1])
theorem call_28 : Callable Try.prog 28 := ⟨_, Try.func28, by kernel_rfl, rfl⟩
theorem call_31 : Callable Try.prog 31 := ⟨_, Try.func31, by kernel_rfl, rfl⟩
theorem call_34 : Callable Try.prog 34 := ⟨_, Try.func34, by kernel_rfl, rfl⟩
theorem call_35 : Callable Try.prog 35 := ⟨_, Try.func35, by kernel_rfl, rfl⟩
theorem call_36 : Callable Try.prog 36 := ⟨_, Try.func36, by kernel_rfl, rfl⟩
theorem call_39 : Callable Try.prog 39 := ⟨_, Try.func39, by kernel_rfl, rfl⟩
theorem text_ok (t : Option T) (hl : szO t ≤ 16000) (w : World) (h : liesO t w) :
   Calls Try.prog 31 #[ptrO t] w (Ret fun v w' => v = str (txO t) ∧ Ext [] w w') := by
 refine calls_fx (l := [ptrO t]) Try.func31 rfl Try.ntmps31 (Nat.le_of_ble_eq_true rfl) (startO h) ?_
 refine c_seq ?_
 refine c_reg ?_
 refine l_q (by decide) (p_assign (v := str []) rfl).q ?_
 refine l_nil ?_
 refine c_seq ?_
 refine c_reg ?_
 refine l_alloc (by decide) inf_70 _ rfl (fun b3 => ?_)
 refine l_nil ?_
 refine c_seq ?_
 refine c_reg ?_
 refine l_q (by decide) (p_move rfl).q ?_
 refine l_q (by decide) (p_makeFn rfl rfl).q ?_
 refine l_sl0 5 1 byteF ?_
 refine l_perm (front1 _ _ _) ?_
 refine l_callo (τ := bldI b3 none none [] 0) (σ := []) (fun _ => .bool true) (fun x : BX b3 => bldI b3 x.1.1 x.1.2.1 ([] ++ txO t) x.1.2.2) (by decide) call_33 rfl (fun w hs => walk_ok t b3 none none 0 [] (.inl rfl) (by rw [List.length_nil]; omega) _ w hs (by repeat constructor)) (fun x => ?_)
 refine l_nil ?_
 refine c_seq ?_
 refine c_reg ?_
 refine l_calle (by decide) call_39 rfl (fun w hs => string_ok b3 x.1.1 x.1.2.1 x.1.2.2 ([] ++ txO t) x.2 _ w _ hs) ?_
 refine l_q (by decide) (p_assign rfl).q ?_
 refine l_nil ?_
 refine c_ret ?_
 refine c_ret1 rfl rfl (fun w hs => ?_)
 exact ⟨by rw [List.nil_append], hs.ext⟩

theorem build_step (s : List UInt8) (ih : ∀ u : List UInt8, u.length < s.length → BuildC u) (hl : s.length ≤ 16000) (σ : Fx.Own) (w : World) (h : St w (keysOf σ) w σ []) :
   Calls Try.prog 28 #[str s] w (Ret fun v w' => ∃ x : TO (Rope.build s), v = ptrO x.1 ∧ St w (keysOf σ) w' σ [liesO x.1]) := by
 refine calls_fx (l := [str s]) Try.func28 rfl Try.ntmps28 (Nat.le_of_ble_eq_true rfl) h ?_
 refine c_seq ?_
 refine c_reg ?_
 refine l_q (by decide) (p_assign rfl).q ?_
 refine l_nil ?_
 refine c_seq ?_
 refine c_seq ?_
 refine c_reg ?_
 refine l_q (by decide) (p_move rfl).q ?_
 refine l_q (by decide) (p_len_str Try.underlying9 rfl).q ?_
 first | refine l_q (by decide) (p_leq (j := 64) rfl rfl rfl rfl).q ?_ | refine l_q (by decide) (p_leqi rfl rfl).q ?_
 refine l_nil ?_
 first | refine c_dec rfl (fun h7 => ?_) (fun h7 => ?_) | refine c_cond rfl (fun h7 => ?_) (fun h7 => ?_)
 ·skip
  refine c_seq ?_
  refine c_reg ?_
  refine l_q (by decide) (p_move rfl).q ?_
  refine l_callf [] (X := TO (if s = [] then none else some (.leaf s))) (fun x => ptrO x.1) (fun x => [liesO x.1]) (by decide) call_34 rfl (fun _ h => by cases h) (fun w hs => leaf_ok s hl _ w hs) (fun x9 => ?_)
  refine l_q (by decide) (p_assign rfl).q ?_
  refine l_nil ?_
  refine c_ret ?_
  refine c_ret1 rfl rfl (fun w hs => ?_)
  exact ⟨⟨x9.1, by rw [x9.2]; exact build_small (by omega)⟩, rfl, St.sel hs (by repeat constructor)⟩
 ·skip
  have hc := Rope.cut_lt (n := s.length) (by omega)
  have hne := take_ne (s := s) (by omega)
  have hbk : Rope.blocks s.length ≤ 300 := by unfold Rope.blocks; omega
  have hcut : Rope.blocks s.length / 2 * 64 ≤ 16000 := by omega
  refine c_skip ?_
  refine c_seq ?_
  refine c_reg ?_
  refine l_q (by decide) (p_move rfl).q ?_
  refine l_q (by decide) (p_len_str Try.underlying9 rfl).q ?_
  first | refine l_q (by decide) (p_add (j := 64) rfl rfl rfl rfl (by show _ ≤ (9223372036854775807 : Nat); omega)).q ?_ | refine l_q (by decide) (p_addi rfl rfl (by show (-9223372036854775808 : Int) ≤ _; omega) (by show _ ≤ ((9223372036854775807 : Nat) : Int); omega)).q ?_
  first | refine l_q (by decide) (p_sub (j := 1) rfl rfl rfl rfl (by omega) (by show _ ≤ (9223372036854775807 : Nat); omega)).q ?_ | refine l_q (by decide) (p_subi rfl rfl (by show (-9223372036854775808 : Int) ≤ _; omega) (by show _ ≤ ((9223372036854775807 : Nat) : Int); omega)).q ?_
  refine l_q (by decide) (p_quo (j := 64) rfl rfl rfl rfl (by omega) (by show _ ≤ (9223372036854775807 : Nat); omega)).q ?_
  refine l_q (by decide) (((p_assign rfl)).to (u := .int .i64 ((Rope.blocks s.length : Nat) : Int)) (rfl)).q ?_
  refine l_nil ?_
  refine c_seq ?_
  refine c_reg ?_
  refine l_q (by decide) (p_move rfl).q ?_
  refine l_q (by decide) (p_quo (j := 2) rfl rfl rfl rfl (by omega) (by show _ ≤ (9223372036854775807 : Nat); omega)).q ?_
  refine l_q (by decide) (p_mul (j := 64) rfl rfl rfl rfl (by show _ ≤ (9223372036854775807 : Nat); omega)).q ?_
  refine l_q (by decide) (((p_assign rfl)).to (u := .int .i64 ((Rope.cut s.length : Nat) : Int)) (rfl)).q ?_
  refine l_nil ?_
  refine c_seq ?_
  refine m_draw [] mixed ?_
  refine m_takep 0 rfl (by kernel_rfl) (by decide) (p_move rfl) ?_
  refine m_takep 1 rfl (by kernel_rfl) (by decide) (p_move rfl) ?_
  first | refine m_takep 2 rfl (by kernel_rfl) (by decide) (p_slice_h Try.underlying9 rfl rfl rfl (by omega)) ?_ | refine m_takep 2 rfl (by kernel_rfl) (by decide) (p_slice_h Try.underlying9 rfl rfl rfl (by simp; omega)) ?_
  refine m_takep 4 rfl (by kernel_rfl) (by decide) (p_move rfl) ?_
  refine m_takep 5 rfl (by kernel_rfl) (by decide) (p_move rfl) ?_
  first | refine m_takep 6 rfl (by kernel_rfl) (by decide) (p_slice_l Try.underlying9 rfl rfl rfl (by omega)) ?_ | refine m_takep 6 rfl (by kernel_rfl) (by decide) (p_slice_l Try.underlying9 rfl rfl rfl (by simp; omega)) ?_
  refine m_run 3 rfl (by kernel_rfl) ?_
  refine l_callf [] (X := TO (Rope.build (s.take (Rope.cut s.length)))) (fun x => ptrO x.1) (fun x => [liesO x.1]) (by decide) call_28 rfl (fun _ h => by cases h) (fun w hs => ih _ (by rw [List.length_take]; omega) (by rw [List.length_take]; omega) _ w hs) (fun x21 => ?_)
  refine l_nil ?_
  refine m_next _ (by first | exact (List.Perm.refl _ : List.Perm _ ([] ++ _)) | exact (List.Perm.refl _ : List.Perm _ ([_] ++ _)) | exact (List.Perm.refl _ : List.Perm _ ([_, _] ++ _)) | exact (List.Perm.refl _ : List.Perm _ ([_, _, _] ++ _)) | exact (List.Perm.refl _ : List.Perm _ ([_, _, _, _] ++ _)) | exact (List.Perm.refl _ : List.Perm _ ([_, _, _, _, _] ++ _))) (by first | exact fun _ h => h | exact fun _ h => List.mem_cons_of_mem _ h | exact fun _ h => List.mem_cons_of_mem _ (List.mem_cons_of_mem _ h) | exact fun _ h => List.mem_cons_of_mem _ (List.mem_cons_of_mem _ (List.mem_cons_of_mem _ h)) | exact fun _ h => List.mem_cons_of_mem _ (List.mem_cons_of_mem _ (List.mem_cons_of_mem _ (List.mem_cons_of_mem _ h))) | exact fun _ h => List.mem_cons_of_mem _ (List.mem_cons_of_mem _ (List.mem_cons_of_mem _ (List.mem_cons_of_mem _ (List.mem_cons_of_mem _ h))))) ?_
  refine m_run 7 rfl (by kernel_rfl) ?_
  refine l_callf [] (X := TO (Rope.build (s.drop (Rope.cut s.length)))) (fun x => ptrO x.1) (fun x => [liesO x.1]) (by decide) call_28 rfl (fun _ h => by cases h) (fun w hs => ih _ (by rw [List.length_drop]; omega) (by rw [List.length_drop]; omega) _ w hs) (fun x25 => ?_)
  refine l_nil ?_
  refine m_next _ (by first | exact (List.Perm.refl _ : List.Perm _ ([] ++ _)) | exact (List.Perm.refl _ : List.Perm _ ([_] ++ _)) | exact (List.Perm.refl _ : List.Perm _ ([_, _] ++ _)) | exact (List.Perm.refl _ : List.Perm _ ([_, _, _] ++ _)) | exact (List.Perm.refl _ : List.Perm _ ([_, _, _, _] ++ _)) | exact (List.Perm.refl _ : List.Perm _ ([_, _, _, _, _] ++ _))) (by first | exact fun _ h => h | exact fun _ h => List.mem_cons_of_mem _ h | exact fun _ h => List.mem_cons_of_mem _ (List.mem_cons_of_mem _ h) | exact fun _ h => List.mem_cons_of_mem _ (List.mem_cons_of_mem _ (List.mem_cons_of_mem _ h)) | exact fun _ h => List.mem_cons_of_mem _ (List.mem_cons_of_mem _ (List.mem_cons_of_mem _ (List.mem_cons_of_mem _ h))) | exact fun _ h => List.mem_cons_of_mem _ (List.mem_cons_of_mem _ (List.mem_cons_of_mem _ (List.mem_cons_of_mem _ (List.mem_cons_of_mem _ h))))) ?_
  obtain ⟨x21, h21⟩ := x21
  obtain ⟨ta, rfl, hta⟩ := TO.get h21 (build_some hne.1)
  obtain ⟨x25, h25⟩ := x25
  obtain ⟨tb, rfl, htb⟩ := TO.get h25 (build_some hne.2)
  refine m_run 8 rfl (by kernel_rfl) ?_
  refine l_callf [liesO (some ta), liesO (some tb)] (X := { t : T // t.pl = .node ta.pl tb.pl }) (fun x => ptrO (some x.1)) (fun x => [liesO (some x.1)]) (by decide) call_35 rfl (by intro p hp; simp only [List.mem_cons, List.not_mem_nil, or_false] at hp; rcases hp with rfl | rfl <;> repeat constructor) (fun w hs => inner_ok ta tb (by rw [hta, htb, bld_size, bld_size, List.length_take, List.length_drop]; omega) (by rw [hta]; exact bld_h hne.1 (by rw [List.length_take]; omega)) (by rw [htb]; exact bld_h hne.2 (by rw [List.length_drop]; omega)) _ w hs) (fun x26 => ?_)
  refine l_nil ?_
  refine m_next _ (by first | exact (List.Perm.refl _ : List.Perm _ ([] ++ _)) | exact (List.Perm.refl _ : List.Perm _ ([_] ++ _)) | exact (List.Perm.refl _ : List.Perm _ ([_, _] ++ _)) | exact (List.Perm.refl _ : List.Perm _ ([_, _, _] ++ _)) | exact (List.Perm.refl _ : List.Perm _ ([_, _, _, _] ++ _)) | exact (List.Perm.refl _ : List.Perm _ ([_, _, _, _, _] ++ _))) (by first | exact fun _ h => h | exact fun _ h => List.mem_cons_of_mem _ h | exact fun _ h => List.mem_cons_of_mem _ (List.mem_cons_of_mem _ h) | exact fun _ h => List.mem_cons_of_mem _ (List.mem_cons_of_mem _ (List.mem_cons_of_mem _ h)) | exact fun _ h => List.mem_cons_of_mem _ (List.mem_cons_of_mem _ (List.mem_cons_of_mem _ (List.mem_cons_of_mem _ h))) | exact fun _ h => List.mem_cons_of_mem _ (List.mem_cons_of_mem _ (List.mem_cons_of_mem _ (List.mem_cons_of_mem _ (List.mem_cons_of_mem _ h))))) ?_
  refine m_takep 9 rfl (by kernel_rfl) (by decide) (p_assign rfl) ?_
  refine m_done (by kernel_rfl) ?_
  refine c_ret ?_
  refine c_ret1 rfl rfl (fun w hs => ?_)
  exact ⟨⟨some x26.1, by rw [build_big (by omega), ← hta, ← htb]; exact congrArg some x26.2⟩, rfl, St.sel hs (by repeat constructor)⟩

theorem build_ok : ∀ s : List UInt8, BuildC s := fun s => by
  induction s using Rope.len_ind with
  | step s ih => exact fun hl σ w h => build_step s ih hl σ w h
theorem join_big {a b : T} (h : ¬ ((T.node 0 a b).pl.size ≤ 64 ∨ Rope.bound (T.node 0 a b).pl.size < (T.node 0 a b).pl.height)) : Rope.join (some a.pl) (some b.pl) = some (.node a.pl b.pl) := by rw [Rope.join_some]; exact if_neg h
theorem join_small {a b : T} (h : (Rope.N.node a.pl b.pl).size ≤ 64 ∨ Rope.bound (Rope.N.node a.pl b.pl).size < (Rope.N.node a.pl b.pl).height) (hne : (Rope.N.node a.pl b.pl).text ≠ []) : Rope.join (some a.pl) (some b.pl) = Rope.build (Rope.N.node a.pl b.pl).text := by rw [Rope.join_some, if_pos h, build_some hne]
theorem good_ne {a b : T} (ha : Rope.Good a.pl) : (Rope.N.node a.pl b.pl).text ≠ [] := fun e => by
  have h1 := ha.pos
  have h2 := congrArg List.length e
  simp only [Rope.N.text, List.length_append, List.length_nil] at h2
  simp only [Rope.N.size] at h1; omega

theorem join_ok (a b : Option T) (ga : Rope.GoodO (plO a)) (gb : Rope.GoodO (plO b)) (hl : szO a + szO b ≤ 16000) (σ : Fx.Own) (w : World) (h : St w (keysOf σ) w σ [liesO a, liesO b]) :
   Calls Try.prog 29 #[ptrO a, ptrO b] w (Ret fun v w' => ∃ x : TO (Rope.join (plO a) (plO b)), v = ptrO x.1 ∧ St w (keysOf σ) w' σ [liesO x.1]) := by
 refine calls_fx (l := [ptrO a, ptrO b]) Try.func29 rfl Try.ntmps29 (Nat.le_of_ble_eq_true rfl) h ?_
 refine c_seq ?_
 refine c_reg ?_
 refine l_q (by decide) (p_assign rfl).q ?_
 refine l_nil ?_
 refine c_seq ?_
 refine c_seq ?_
 refine c_reg ?_
 refine l_q (by decide) (p_move rfl).q ?_
 first | refine l_q (by decide) (p_eqpn Try.underlying24 rfl rfl).q ?_ | refine l_q (by decide) (p_eqps Try.underlying24 inf_64 rfl rfl).q ?_
 refine l_nil ?_
 first | refine c_dec rfl (fun h7 => ?_) (fun h7 => ?_) | refine c_cond rfl (fun h7 => ?_) (fun h7 => ?_)
 ·skip
  obtain rfl : a = none := by cases a <;> simp_all [adO]
  refine c_seq ?_
  refine c_reg ?_
  refine l_q (by decide) (p_move rfl).q ?_
  refine l_q (by decide) (p_assign rfl).q ?_
  refine l_nil ?_
  refine c_ret ?_
  refine c_ret1 rfl rfl (fun w hs => ?_)
  exact ⟨⟨b, rfl⟩, rfl, St.sel hs (by repeat constructor)⟩
 ·skip
  obtain ⟨a, rfl⟩ : ∃ t2, a = some t2 := by cases a <;> simp_all [adO]
  have hsa := szO_some a
  refine c_skip ?_
  refine c_seq ?_
  refine c_seq ?_
  refine c_reg ?_
  refine l_q (by decide) (p_move rfl).q ?_
  first | refine l_q (by decide) (p_eqpn Try.underlying24 rfl rfl).q ?_ | refine l_q (by decide) (p_eqps Try.underlying24 inf_64 rfl rfl).q ?_
  refine l_nil ?_
  first | refine c_dec rfl (fun h10 => ?_) (fun h10 => ?_) | refine c_cond rfl (fun h10 => ?_) (fun h10 => ?_)
  ·skip
   obtain rfl : b = none := by cases b <;> simp_all [adO]
   refine c_seq ?_
   refine c_reg ?_
   refine l_q (by decide) (p_move rfl).q ?_
   refine l_q (by decide) (p_assign rfl).q ?_
   refine l_nil ?_
   refine c_ret ?_
   refine c_ret1 rfl rfl (fun w hs => ?_)
   exact ⟨⟨some a, rfl⟩, rfl, St.sel hs (by repeat constructor)⟩
  ·skip
   obtain ⟨b, rfl⟩ : ∃ t2, b = some t2 := by cases b <;> simp_all [adO]
   have hsb := szO_some b
   refine c_skip ?_
   refine c_seq ?_
   refine c_reg ?_
   refine l_q (by decide) (p_move rfl).q ?_
   refine l_q (by decide) (p_move rfl).q ?_
   refine l_callf [liesO (some a), liesO (some b)] (X := { t : T // t.pl = .node a.pl b.pl }) (fun x => ptrO (some x.1)) (fun x => [liesO (some x.1)]) (by decide) call_35 rfl (by intro p hp; simp only [List.mem_cons, List.not_mem_nil, or_false] at hp; rcases hp with rfl | rfl <;> repeat constructor) (fun w hs => inner_ok a b hl (by have := good_height ga (by omega); omega) (by have := good_height gb (by omega); omega) _ w hs) (fun x => ?_)
   have hx : x.1.pl = .node a.pl b.pl := x.2
   have hxs : x.1.pl.size = a.pl.size + b.pl.size := by rw [hx]; exact T.size_node _ _
   refine l_q (by decide) (p_assign rfl).q ?_
   refine l_nil ?_
   refine c_seq ?_
   refine c_seq ?_
   refine c_draw mixed (by decide +kernel) ?_
   refine q_q (by decide) (p_move rfl).q ?_
   refine q_q (by decide) (p_nilp rfl).q ?_
   first | refine q_q (by decide) (p_faddr (i := 3) 3 Try.underlying64 rfl inf_3 (by decide) rfl rfl).q ?_ | refine q_q (by decide) (p_faddro (i := 3) 3 Try.underlying64 rfl inf_3 (by decide) rfl rfl).q ?_
   refine q_q (by decide) (r_loadq (q := liesO (some (x.1))) Try.underlying3 rfl rfl (by repeat constructor) (fun w h => T.c3 h)).q ?_
   first | refine q_q (by decide) (p_leq (j := 64) rfl rfl rfl rfl).q ?_ | refine q_q (by decide) (p_leqi rfl rfl).q ?_
   refine q_q (by decide) (p_move rfl).q ?_
   first | refine q_splitd (t := 20) rfl (fun h20 => ?_) (fun h20 => ?_) | refine q_splitb (t := 20) rfl (fun h20 => ?_) (fun h20 => ?_)
   ·skip
    refine q_off (j := 5) rfl rfl (by first | (simp; done) | (simp [undef]; done)) (by decide) ?_
    refine q_off (j := 5) rfl rfl (by first | (simp; done) | (simp [undef]; done)) (by decide) ?_
    refine q_off (j := 5) rfl rfl (by first | (simp; done) | (simp [undef]; done)) (by decide) ?_
    refine q_off (j := 5) rfl rfl (by first | (simp; done) | (simp [undef]; done)) (by decide) ?_
    refine q_off (j := 5) rfl rfl (by first | (simp; done) | (simp [undef]; done)) (by decide) ?_
    refine q_off (j := 5) rfl rfl (by first | (simp; done) | (simp [undef]; done)) (by decide) ?_
    refine q_off (j := 5) rfl rfl (by first | (simp; done) | (simp [undef]; done)) (by decide) ?_
    refine q_off (j := 5) rfl rfl (by first | (simp; done) | (simp [undef]; done)) (by decide) ?_
    refine q_off (j := 5) rfl rfl (by first | (simp; done) | (simp [undef]; done)) (by decide) ?_
    refine q_off (j := 5) rfl rfl (by first | (simp; done) | (simp [undef]; done)) (by decide) ?_
    refine q_q (by decide) (p_pick rfl rfl).q ?_
    refine q_nil ?_
    refine c_true rfl ?_
    refine c_seq ?_
    refine c_reg ?_
    refine l_q (by decide) (p_move rfl).q ?_
    refine l_q (by decide) (q_call call_31 rfl (fun w hs => text_ok (some x.1) (by rw [szO_some]; omega) w (hs.facts (liesO (some x.1)) (by repeat constructor)).1)) ?_
    refine l_callf [] (X := TO (Rope.build (txO (some x.1)))) (fun x => ptrO x.1) (fun x => [liesO x.1]) (by decide) call_28 rfl (fun _ h => by cases h) (fun w hs => build_ok _ (by show x.1.pl.size ≤ _; omega) _ w hs) (fun x34 => ?_)
    refine l_q (by decide) (p_assign rfl).q ?_
    refine l_nil ?_
    refine c_ret ?_
    refine c_ret1 rfl rfl (fun w hs => ?_)
    exact ⟨⟨x34.1, by rw [x34.2]; exact (show Rope.join (some a.pl) (some b.pl) = Rope.build x.1.pl.text by rw [join_small (by rw [← hx]; omega) (good_ne ga), hx]).symm⟩, rfl, St.sel hs (by repeat constructor)⟩
   ·skip
    refine q_g (j := 5) rfl rfl (by decide) (p_move rfl).q ?_
    refine q_g (j := 5) rfl rfl (by decide) (p_nilp rfl).q ?_
    first | refine q_g (j := 5) rfl rfl (by decide) (p_faddr (i := 4) 4 Try.underlying64 rfl inf_3 (by decide) rfl rfl).q ?_ | refine q_g (j := 5) rfl rfl (by decide) (p_faddro (i := 4) 4 Try.underlying64 rfl inf_3 (by decide) rfl rfl).q ?_
    refine q_g (j := 5) rfl rfl (by decide) (r_loadq (q := liesO (some (x.1))) Try.underlying3 rfl rfl (by repeat constructor) (fun w h => T.c4 h)).q ?_
    refine q_g (j := 5) rfl rfl (by decide) (p_move rfl).q ?_
    refine q_g (j := 5) rfl rfl (by decide) (p_nilp rfl).q ?_
    first | refine q_g (j := 5) rfl rfl (by decide) (p_faddr (i := 3) 3 Try.underlying64 rfl inf_3 (by decide) rfl rfl).q ?_ | refine q_g (j := 5) rfl rfl (by decide) (p_faddro (i := 3) 3 Try.underlying64 rfl inf_3 (by decide) rfl rfl).q ?_
    refine q_g (j := 5) rfl rfl (by decide) (r_loadq (q := liesO (some (x.1))) Try.underlying3 rfl rfl (by repeat constructor) (fun w h => T.c3 h)).q ?_
    refine q_g (j := 5) rfl rfl (by decide) (q_call call_36 rfl (fun w hs => bound_ok x.1.pl.size (by omega) w)) ?_
    first | refine q_g (j := 5) rfl rfl (by decide) (p_gtr rfl rfl rfl rfl).q ?_ | refine q_g (j := 5) rfl rfl (by decide) (p_gtri rfl rfl).q ?_
    refine q_q (by decide) (p_pick rfl rfl).q ?_
    refine q_nil ?_
    first | refine c_dec rfl (fun h31 => ?_) (fun h31 => ?_) | refine c_cond rfl (fun h31 => ?_) (fun h31 => ?_)
    ·skip
     refine c_seq ?_
     refine c_reg ?_
     refine l_q (by decide) (p_move rfl).q ?_
     refine l_q (by decide) (q_call call_31 rfl (fun w hs => text_ok (some x.1) (by rw [szO_some]; omega) w (hs.facts (liesO (some x.1)) (by repeat constructor)).1)) ?_
     refine l_callf [] (X := TO (Rope.build (txO (some x.1)))) (fun x => ptrO x.1) (fun x => [liesO x.1]) (by decide) call_28 rfl (fun _ h => by cases h) (fun w hs => build_ok _ (by show x.1.pl.size ≤ _; omega) _ w hs) (fun x34 => ?_)
     refine l_q (by decide) (p_assign rfl).q ?_
     refine l_nil ?_
     refine c_ret ?_
     refine c_ret1 rfl rfl (fun w hs => ?_)
     exact ⟨⟨x34.1, by rw [x34.2]; exact (show Rope.join (some a.pl) (some b.pl) = Rope.build x.1.pl.text by rw [join_small (by rw [← hx]; omega) (good_ne ga), hx]).symm⟩, rfl, St.sel hs (by repeat constructor)⟩
    ·skip
     refine c_skip ?_
     refine c_seq ?_
     refine c_reg ?_
     refine l_q (by decide) (p_move rfl).q ?_
     refine l_q (by decide) (p_assign rfl).q ?_
     refine l_nil ?_
     refine c_ret ?_
     refine c_ret1 rfl rfl (fun w hs => ?_)
     exact ⟨⟨some x.1, by show some x.1.pl = Rope.join (some a.pl) (some b.pl); rw [Rope.join_some, hx, if_neg (by rw [← hx]; omega)]⟩, rfl, St.sel hs (by repeat constructor)⟩
end Go.Proofs.Ytdpocfkbnfhcfaa
