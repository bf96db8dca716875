/- The walks of ropes, fourth part; conditions: lengths. -/
import Derived.Test.YtdpocfkbnfhcfaaWalksC
namespace Go.Proofs.Ytdpocfkbnfhcfaa
open Go Go.Fx Go.Proofs

def slO : Option Rope.N → Nat → Nat → Option Rope.N
  | none, _, _ => none
  | some n, f, u => Rope.slice n f u
theorem slO_good {n : Option Rope.N} (hg : Rope.GoodO n) (f u : Nat) (hu : u ≤ (Rope.textO n).length) : Rope.GoodO (slO n f u) := by
  cases n with
  | none => trivial
  | some n => exact Rope.slice_good n f u hg hu
theorem slO_text (n : Option Rope.N) (f u : Nat) (hu : u ≤ (Rope.textO n).length) : Rope.textO (slO n f u) = ((Rope.textO n).drop f).take (u - f) := by
  cases n with
  | none => simp [slO, Rope.textO]
  | some n => exact Rope.slice_text n f u hu
theorem TO.good {t : Option T} {n : Option Rope.N} (h : plO t = n) (hg : Rope.GoodO n) : Rope.GoodO (plO t) := h ▸ hg
theorem slO_len {t : Option T} {n : Option Rope.N} {f u : Nat} (h : plO t = slO n f u) (hu : u ≤ (Rope.textO n).length) : szO t = min (u - f) ((Rope.textO n).length - f) := by
  rw [szO, txO, h, slO_text n f u hu, List.length_take, List.length_drop]
theorem slice_leaf' {s : List UInt8} {f u : Nat} (h : ¬ u ≤ f) (hu : u ≤ s.length) (h0 : ¬ (f = 0 ∧ u = s.length)) : (if (s.drop f).take (u - f) = [] then none else some (Rope.N.leaf ((s.drop f).take (u - f)))) = Rope.slice (.leaf s) f u := by
  rw [Rope.slice_leaf h h0, if_neg]
  intro e
  have := congrArg List.length e
  simp only [List.length_take, List.length_drop, List.length_nil] at this; omega
def SliceC (t : Option T) : Prop := ∀ (f u : Nat) (_ : u ≤ szO t) (_ : Rope.GoodO (plO t)) (_ : szO t ≤ 16000) (σ : Fx.Own) (w : World) (_ : St w (keysOf σ) w σ [liesO t]), Calls Try.prog 30 #[ptrO t, .int .i64 (f : Int), .int .i64 (u : Int)] w (Ret fun v w' => ∃ x : TO (slO (plO t) f u), v = ptrO x.1 ∧ St w (keysOf σ) w' σ [liesO x.1])
theorem call_29 : Callable Try.prog 29 := ⟨_, Try.func29, by kernel_rfl, rfl⟩
theorem call_30 : Callable Try.prog 30 := ⟨_, Try.func30, by kernel_rfl, rfl⟩
theorem slice_step (t : Option T) (ih : ∀ b l r, t = some (T.node b l r) → SliceC (some l) ∧ SliceC (some r)) (f u : Nat) (hu : u ≤ szO t) (hg : Rope.GoodO (plO t)) (hsz : szO t ≤ 16000) (σ : Fx.Own) (w : World) (h : St w (keysOf σ) w σ [liesO t]) :
   Calls Try.prog 30 #[ptrO t, .int .i64 (f : Int), .int .i64 (u : Int)] w (Ret fun v w' => ∃ x : TO (slO (plO t) f u), v = ptrO x.1 ∧ St w (keysOf σ) w' σ [liesO x.1]) := by
 refine calls_fx (l := [ptrO t, .int .i64 (f : Int), .int .i64 (u : Int)]) Try.func30 rfl Try.ntmps30 (Nat.le_of_ble_eq_true rfl) h ?_
 refine c_seq ?_
 refine c_reg ?_
 refine l_q (by decide) (p_assign rfl).q ?_
 refine l_nil ?_
 refine c_seq ?_
 refine c_seq ?_
 refine c_reg ?_
 refine l_q (by decide) (p_move rfl).q ?_
 refine l_q (by decide) (p_move rfl).q ?_
 first | refine l_q (by decide) (p_geq rfl rfl rfl rfl).q ?_ | refine l_q (by decide) (p_geqi rfl rfl).q ?_
 refine l_nil ?_
 first | refine c_dec rfl (fun h10 => ?_) (fun h10 => ?_) | refine c_cond rfl (fun h10 => ?_) (fun h10 => ?_)
 ·skip
  refine c_seq ?_
  refine c_reg ?_
  refine l_q (by decide) (p_assign rfl).q ?_
  refine l_nil ?_
  refine c_ret ?_
  refine c_ret1 rfl rfl (fun w hs => ?_)
  exact ⟨⟨none, by cases t with
    | none => rfl
    | some t => exact (Rope.slice_none (by omega)).symm⟩, rfl, (hs.sure (q := liesO none) fun _ => trivial).weak (fun p hp => by rw [List.mem_singleton.1 hp]; exact List.mem_cons_self ..)⟩
 ·skip
  obtain ⟨t, rfl⟩ : ∃ t2, t = some t2 := by
    cases t with
    | none => have : u ≤ 0 := hu; omega
    | some t => exact ⟨t, rfl⟩
  have hst := szO_some t
  refine c_skip ?_
  refine c_seq ?_
  refine c_seq ?_
  refine c_meetn (S := Unit) (fun zs => True) (fun zs => [(0, ptrO (some t)), (1, .int .i64 (f : Int)), (2, .int .i64 (u : Int)), (20, .bool (decide (f = 0 ∧ u = t.pl.size)))]) (fun zs => σ) (fun zs => [liesO t]) ?_ ?_
  ·skip
   refine c_reg ?_
   refine l_q (by decide) (p_move rfl).q ?_
   first | refine l_q (by decide) (p_eql (j := 0) rfl rfl rfl rfl).q ?_ | refine l_q (by decide) (p_eqli rfl rfl).q ?_
   refine l_q (by decide) (p_move rfl).q ?_
   first | refine l_splitd (t := 13) rfl (fun h13 => ?_) (fun h13 => ?_) | refine l_splitb (t := 13) rfl (fun h13 => ?_) (fun h13 => ?_)
   ·skip
    refine l_g (j := 2) rfl rfl (by decide) (p_move rfl).q ?_
    refine l_g (j := 2) rfl rfl (by decide) (p_move rfl).q ?_
    refine l_g (j := 2) rfl rfl (by decide) (p_nilp rfl).q ?_
    first | refine l_g (j := 2) rfl rfl (by decide) (p_faddr (i := 3) 3 Try.underlying64 rfl inf_3 (by decide) rfl rfl).q ?_ | refine l_g (j := 2) rfl rfl (by decide) (p_faddro (i := 3) 3 Try.underlying64 rfl inf_3 (by decide) rfl rfl).q ?_
    refine l_g (j := 2) rfl rfl (by decide) (r_loadq (q := liesO (some (t))) Try.underlying3 rfl rfl (by repeat constructor) (fun w h => T.c3 h)).q ?_
    first | refine l_g (j := 2) rfl rfl (by decide) (p_eql rfl rfl rfl rfl).q ?_ | refine l_g (j := 2) rfl rfl (by decide) (p_eqli rfl rfl).q ?_
    refine l_q (by decide) (p_pick rfl rfl).q ?_
    refine l_nil ?_
    refine c_join (()) ?inv ?sub ?perm ?facts
    case sub => exact ⟨rfl, rfl, rfl, (by first | rfl | exact congrArg (fun b => some (Value.bool b)) (decide_eq_true (by omega)).symm | exact congrArg (fun b => some (Value.bool b)) (decide_eq_false (by omega)).symm | exact congrArg (fun b => some (Value.bool b)) (decide_eq_decide.2 (by omega))), trivial⟩
    case perm =>
     exact .refl _
    case facts => exact fun _ h => h
    case inv =>
     trivial
   ·skip
    refine l_off (j := 2) rfl rfl (by first | (simp; done) | (simp [undef]; done)) (by decide) ?_
    refine l_off (j := 2) rfl rfl (by first | (simp; done) | (simp [undef]; done)) (by decide) ?_
    refine l_off (j := 2) rfl rfl (by first | (simp; done) | (simp [undef]; done)) (by decide) ?_
    refine l_off (j := 2) rfl rfl (by first | (simp; done) | (simp [undef]; done)) (by decide) ?_
    refine l_off (j := 2) rfl rfl (by first | (simp; done) | (simp [undef]; done)) (by decide) ?_
    refine l_off (j := 2) rfl rfl (by first | (simp; done) | (simp [undef]; done)) (by decide) ?_
    refine l_q (by decide) (p_pick rfl rfl).q ?_
    refine l_nil ?_
    refine c_join (()) ?inv ?sub ?perm ?facts
    case sub => exact ⟨rfl, rfl, rfl, (by first | rfl | exact congrArg (fun b => some (Value.bool b)) (decide_eq_true (by omega)).symm | exact congrArg (fun b => some (Value.bool b)) (decide_eq_false (by omega)).symm | exact congrArg (fun b => some (Value.bool b)) (decide_eq_decide.2 (by omega))), trivial⟩
    case perm =>
     exact .refl _
    case facts => exact fun _ h => h
    case inv =>
     trivial
  rintro uu hmeet
  show Cont _ _ _ _ [(0, ptrO (some t)), (1, .int .i64 (f : Int)), (2, .int .i64 (u : Int)), (20, .bool (decide (f = 0 ∧ u = t.pl.size)))] (σ) [liesO t]
  first | refine c_dec rfl (fun h20 => ?_) (fun h20 => ?_) | refine c_cond rfl (fun h20 => ?_) (fun h20 => ?_)
  ·skip
   refine c_seq ?_
   refine c_reg ?_
   refine l_q (by decide) (p_move rfl).q ?_
   refine l_q (by decide) (p_assign rfl).q ?_
   refine l_nil ?_
   refine c_ret ?_
   refine c_ret1 rfl rfl (fun w hs => ?_)
   exact ⟨⟨some t, (Rope.slice_all (by omega) h20).symm⟩, rfl, St.sel hs (by repeat constructor)⟩
  ·skip
   refine c_skip ?_
   refine c_seq ?_
   refine c_seq ?_
   refine c_reg ?_
   refine l_q (by decide) (p_move rfl).q ?_
   refine l_q (by decide) (p_nilp rfl).q ?_
   first | refine l_q (by decide) (p_faddr (i := 1) 1 Try.underlying64 rfl inf_24 (by decide) rfl rfl).q ?_ | refine l_q (by decide) (p_faddro (i := 1) 1 Try.underlying64 rfl inf_24 (by decide) rfl rfl).q ?_
   refine l_q (by decide) (r_loadq (q := liesO (some (t))) Try.underlying24 rfl rfl (by repeat constructor) (fun w h => T.c1 h)).q ?_
   first | refine l_q (by decide) (p_eqpn Try.underlying24 rfl rfl).q ?_ | refine l_q (by decide) (p_eqps Try.underlying24 inf_64 rfl rfl).q ?_
   refine l_nil ?_
   first | refine c_dec rfl (fun h26 => ?_) (fun h26 => ?_) | refine c_cond rfl (fun h26 => ?_) (fun h26 => ?_)
   ·skip
    obtain ⟨bt, st, rfl⟩ : ∃ bt st, t = T.leaf bt st := by cases t <;> simp_all [adO, T.lft]
    have hls : (T.leaf bt st).pl.size = st.length := rfl
    refine c_seq ?_
    refine c_reg ?_
    refine l_q (by decide) (p_move rfl).q ?_
    refine l_q (by decide) (p_nilp rfl).q ?_
    first | refine l_q (by decide) (p_faddr (i := 0) 0 Try.underlying64 rfl inf_9 (by decide) rfl rfl).q ?_ | refine l_q (by decide) (p_faddro (i := 0) 0 Try.underlying64 rfl inf_9 (by decide) rfl rfl).q ?_
    refine l_q (by decide) (((r_loadq (q := liesO (some (T.leaf bt st))) Try.underlying9 rfl rfl (by repeat constructor) (fun w h => T.c0 h))).to (u := str st) (rfl)).q ?_
    refine l_q (by decide) (p_move rfl).q ?_
    refine l_q (by decide) (p_move rfl).q ?_
    first | refine l_q (by decide) (p_slice_lh Try.underlying9 rfl rfl rfl rfl rfl (by omega) (by omega)).q ?_ | refine l_q (by decide) (p_slice_lh Try.underlying9 rfl rfl rfl rfl rfl (by omega) (by simp; omega)).q ?_
    refine l_callf [] (X := TO (if (st.drop f).take (u - f) = [] then none else some (.leaf ((st.drop f).take (u - f))))) (fun x => ptrO x.1) (fun x => [liesO x.1]) (by decide) call_34 rfl (fun _ h => by cases h) (fun w hs => leaf_ok _ (by rw [List.length_take, List.length_drop]; omega) _ w hs) (fun x34 => ?_)
    refine l_q (by decide) (p_assign rfl).q ?_
    refine l_nil ?_
    refine c_ret ?_
    refine c_ret1 rfl rfl (fun w hs => ?_)
    exact ⟨⟨x34.1, by rw [x34.2]; exact slice_leaf' (by omega) (by omega) h20⟩, rfl, St.sel hs (by repeat constructor)⟩
   ·skip
    obtain ⟨bt, lt, rt, rfl⟩ : ∃ bt lt rt, t = T.node bt lt rt := by cases t <;> simp_all [adO, T.lft]
    obtain ⟨ihl, ihr⟩ := ih _ _ _ rfl
    have hg : Rope.Good (.node lt.pl rt.pl) := hg
    have hsn : (T.node bt lt rt).pl.size = lt.pl.size + rt.pl.size := T.size_node _ _
    have hn0 : ¬ (f = 0 ∧ u = (Rope.N.node lt.pl rt.pl).size) := h20
    refine c_facts _ (fun w hs => T.open hs (by repeat constructor)) ?_
    refine c_skip ?_
    refine c_seq ?_
    refine c_reg ?_
    refine l_q (by decide) (p_move rfl).q ?_
    refine l_q (by decide) (p_nilp rfl).q ?_
    first | refine l_q (by decide) (p_faddr (i := 1) 1 Try.underlying64 rfl inf_24 (by decide) rfl rfl).q ?_ | refine l_q (by decide) (p_faddro (i := 1) 1 Try.underlying64 rfl inf_24 (by decide) rfl rfl).q ?_
    refine l_q (by decide) (r_loadq (q := liesO (some (T.node bt lt rt))) Try.underlying24 rfl rfl (by repeat constructor) (fun w h => T.c1 h)).q ?_
    refine l_q (by decide) (p_nilp rfl).q ?_
    first | refine l_q (by decide) (p_faddr (i := 3) 3 Try.underlying64 rfl inf_3 (by decide) rfl rfl).q ?_ | refine l_q (by decide) (p_faddro (i := 3) 3 Try.underlying64 rfl inf_3 (by decide) rfl rfl).q ?_
    refine l_q (by decide) (r_loadq (q := liesO (some (lt))) Try.underlying3 rfl rfl (by repeat constructor) (fun w h => T.c3 h)).q ?_
    refine l_q (by decide) (((p_assign rfl)).to (u := .int .i64 ((lt.pl.size : Nat) : Int)) (rfl)).q ?_
    refine l_nil ?_
    refine c_seq ?_
    refine c_seq ?_
    refine c_reg ?_
    refine l_q (by decide) (p_move rfl).q ?_
    refine l_q (by decide) (p_move rfl).q ?_
    first | refine l_q (by decide) (p_leq rfl rfl rfl rfl).q ?_ | refine l_q (by decide) (p_leqi rfl rfl).q ?_
    refine l_nil ?_
    first | refine c_dec rfl (fun h44 => ?_) (fun h44 => ?_) | refine c_cond rfl (fun h44 => ?_) (fun h44 => ?_)
    ·skip
     refine c_seq ?_
     refine c_reg ?_
     refine l_q (by decide) (p_move rfl).q ?_
     refine l_q (by decide) (p_nilp rfl).q ?_
     first | refine l_q (by decide) (p_faddr (i := 1) 1 Try.underlying64 rfl inf_24 (by decide) rfl rfl).q ?_ | refine l_q (by decide) (p_faddro (i := 1) 1 Try.underlying64 rfl inf_24 (by decide) rfl rfl).q ?_
     refine l_q (by decide) (r_loadq (q := liesO (some (T.node bt lt rt))) Try.underlying24 rfl rfl (by repeat constructor) (fun w h => T.c1 h)).q ?_
     refine l_q (by decide) (p_move rfl).q ?_
     refine l_q (by decide) (p_move rfl).q ?_
     refine l_callf [liesO (some lt)] (X := TO (slO (plO (some lt)) (f) (u))) (fun x => ptrO x.1) (fun x => [liesO x.1]) (by decide) call_30 rfl (by intro p hp; simp only [List.mem_cons, List.not_mem_nil, or_false] at hp; rcases hp with rfl <;> repeat constructor) (fun w hs => ihl (f) (u) (by have := szO_some lt; have := szO_some rt; omega) hg.1 (by have := szO_some lt; have := szO_some rt; omega) _ w hs) (fun x51 => ?_)
     refine l_q (by decide) (p_assign rfl).q ?_
     refine l_nil ?_
     refine c_ret ?_
     refine c_ret1 rfl rfl (fun w hs => ?_)
     exact ⟨⟨x51.1, by rw [x51.2]; exact (show Rope.slice (Rope.N.node lt.pl rt.pl) f u = _ by rw [Rope.slice_node (by omega) hn0, if_pos (by omega)]; rfl).symm⟩, rfl, St.sel hs (by repeat constructor)⟩
    ·skip
     refine c_skip ?_
     refine c_seq ?_
     refine c_seq ?_
     refine c_reg ?_
     refine l_q (by decide) (p_move rfl).q ?_
     refine l_q (by decide) (p_move rfl).q ?_
     first | refine l_q (by decide) (p_geq rfl rfl rfl rfl).q ?_ | refine l_q (by decide) (p_geqi rfl rfl).q ?_
     refine l_nil ?_
     first | refine c_dec rfl (fun h54 => ?_) (fun h54 => ?_) | refine c_cond rfl (fun h54 => ?_) (fun h54 => ?_)
     ·skip
      refine c_seq ?_
      refine c_reg ?_
      refine l_q (by decide) (p_move rfl).q ?_
      refine l_q (by decide) (p_nilp rfl).q ?_
      first | refine l_q (by decide) (p_faddr (i := 2) 2 Try.underlying64 rfl inf_24 (by decide) rfl rfl).q ?_ | refine l_q (by decide) (p_faddro (i := 2) 2 Try.underlying64 rfl inf_24 (by decide) rfl rfl).q ?_
      refine l_q (by decide) (r_loadq (q := liesO (some (T.node bt lt rt))) Try.underlying24 rfl rfl (by repeat constructor) (fun w h => T.c2 h)).q ?_
      refine l_q (by decide) (p_move rfl).q ?_
      refine l_q (by decide) (p_move rfl).q ?_
      first | refine l_q (by decide) (p_sub rfl rfl rfl rfl (by omega) (by show _ ≤ (9223372036854775807 : Nat); omega)).q ?_ | refine l_q (by decide) (p_subi rfl rfl (by show (-9223372036854775808 : Int) ≤ _; omega) (by show _ ≤ ((9223372036854775807 : Nat) : Int); omega)).q ?_
      refine l_q (by decide) (p_move rfl).q ?_
      refine l_q (by decide) (p_move rfl).q ?_
      first | refine l_q (by decide) (p_sub rfl rfl rfl rfl (by omega) (by show _ ≤ (9223372036854775807 : Nat); omega)).q ?_ | refine l_q (by decide) (p_subi rfl rfl (by show (-9223372036854775808 : Int) ≤ _; omega) (by show _ ≤ ((9223372036854775807 : Nat) : Int); omega)).q ?_
      refine l_callf [liesO (some rt)] (X := TO (slO (plO (some rt)) (f - lt.pl.size) (u - lt.pl.size))) (fun x => ptrO x.1) (fun x => [liesO x.1]) (by decide) call_30 rfl (by intro p hp; simp only [List.mem_cons, List.not_mem_nil, or_false] at hp; rcases hp with rfl <;> repeat constructor) (fun w hs => ihr (f - lt.pl.size) (u - lt.pl.size) (by have := szO_some lt; have := szO_some rt; omega) hg.2.1 (by have := szO_some lt; have := szO_some rt; omega) _ w hs) (fun x65 => ?_)
      refine l_q (by decide) (p_assign rfl).q ?_
      refine l_nil ?_
      refine c_ret ?_
      refine c_ret1 rfl rfl (fun w hs => ?_)
      exact ⟨⟨x65.1, by rw [x65.2]; exact (show Rope.slice (Rope.N.node lt.pl rt.pl) f u = _ by rw [Rope.slice_node (by omega) hn0, if_neg (by omega), if_pos (by omega)]; rfl).symm⟩, rfl, St.sel hs (by repeat constructor)⟩
     ·skip
      refine c_skip ?_
      refine c_seq ?_
      refine m_draw [] mixed ?_
      refine m_takep 0 rfl (by kernel_rfl) (by decide) (p_move rfl) ?_
      refine m_takep 1 rfl (by kernel_rfl) (by decide) (p_nilp rfl) ?_
      first | refine m_takep 2 rfl (by kernel_rfl) (by decide) (p_faddr (i := 1) 1 Try.underlying64 rfl inf_24 (by decide) rfl rfl) ?_ | refine m_takep 2 rfl (by kernel_rfl) (by decide) (p_faddro (i := 1) 1 Try.underlying64 rfl inf_24 (by decide) rfl rfl) ?_
      refine m_take 3 rfl (by kernel_rfl) (by decide) (by first | exact (List.Perm.refl _ : List.Perm _ ([] ++ _)) | exact (List.Perm.refl _ : List.Perm _ ([_] ++ _)) | exact (List.Perm.refl _ : List.Perm _ ([_, _] ++ _)) | exact (List.Perm.refl _ : List.Perm _ ([_, _, _] ++ _)) | exact (List.Perm.refl _ : List.Perm _ ([_, _, _, _] ++ _)) | exact (List.Perm.refl _ : List.Perm _ ([_, _, _, _, _] ++ _))) (by first | exact fun _ h => h | exact fun _ h => List.mem_cons_of_mem _ h | exact fun _ h => List.mem_cons_of_mem _ (List.mem_cons_of_mem _ h) | exact fun _ h => List.mem_cons_of_mem _ (List.mem_cons_of_mem _ (List.mem_cons_of_mem _ h)) | exact fun _ h => List.mem_cons_of_mem _ (List.mem_cons_of_mem _ (List.mem_cons_of_mem _ (List.mem_cons_of_mem _ h))) | exact fun _ h => List.mem_cons_of_mem _ (List.mem_cons_of_mem _ (List.mem_cons_of_mem _ (List.mem_cons_of_mem _ (List.mem_cons_of_mem _ h))))) (r_loadq (q := liesO (some (T.node bt lt rt))) Try.underlying24 rfl rfl (by repeat constructor) (fun w h => T.c1 h)).r ?_
      refine m_takep 4 rfl (by kernel_rfl) (by decide) (p_move rfl) ?_
      refine m_takep 5 rfl (by kernel_rfl) (by decide) (p_move rfl) ?_
      refine m_takep 7 rfl (by kernel_rfl) (by decide) (p_move rfl) ?_
      refine m_takep 8 rfl (by kernel_rfl) (by decide) (p_nilp rfl) ?_
      first | refine m_takep 9 rfl (by kernel_rfl) (by decide) (p_faddr (i := 2) 2 Try.underlying64 rfl inf_24 (by decide) rfl rfl) ?_ | refine m_takep 9 rfl (by kernel_rfl) (by decide) (p_faddro (i := 2) 2 Try.underlying64 rfl inf_24 (by decide) rfl rfl) ?_
      refine m_take 10 rfl (by kernel_rfl) (by decide) (by first | exact (List.Perm.refl _ : List.Perm _ ([] ++ _)) | exact (List.Perm.refl _ : List.Perm _ ([_] ++ _)) | exact (List.Perm.refl _ : List.Perm _ ([_, _] ++ _)) | exact (List.Perm.refl _ : List.Perm _ ([_, _, _] ++ _)) | exact (List.Perm.refl _ : List.Perm _ ([_, _, _, _] ++ _)) | exact (List.Perm.refl _ : List.Perm _ ([_, _, _, _, _] ++ _))) (by first | exact fun _ h => h | exact fun _ h => List.mem_cons_of_mem _ h | exact fun _ h => List.mem_cons_of_mem _ (List.mem_cons_of_mem _ h) | exact fun _ h => List.mem_cons_of_mem _ (List.mem_cons_of_mem _ (List.mem_cons_of_mem _ h)) | exact fun _ h => List.mem_cons_of_mem _ (List.mem_cons_of_mem _ (List.mem_cons_of_mem _ (List.mem_cons_of_mem _ h))) | exact fun _ h => List.mem_cons_of_mem _ (List.mem_cons_of_mem _ (List.mem_cons_of_mem _ (List.mem_cons_of_mem _ (List.mem_cons_of_mem _ h))))) (r_loadq (q := liesO (some (T.node bt lt rt))) Try.underlying24 rfl rfl (by repeat constructor) (fun w h => T.c2 h)).r ?_
      refine m_takep 11 rfl (by kernel_rfl) (by decide) (p_move rfl) ?_
      refine m_takep 12 rfl (by kernel_rfl) (by decide) (p_move rfl) ?_
      first | refine m_takep 13 rfl (by kernel_rfl) (by decide) (p_sub rfl rfl rfl rfl (by omega) (by show _ ≤ (9223372036854775807 : Nat); omega)) ?_ | refine m_takep 13 rfl (by kernel_rfl) (by decide) (p_subi rfl rfl (by show (-9223372036854775808 : Int) ≤ _; omega) (by show _ ≤ ((9223372036854775807 : Nat) : Int); omega)) ?_
      refine m_run 6 rfl (by kernel_rfl) ?_
      refine l_callf [liesO (some lt)] (X := TO (slO (plO (some lt)) (f) (lt.pl.size))) (fun x => ptrO x.1) (fun x => [liesO x.1]) (by decide) call_30 rfl (by intro p hp; simp only [List.mem_cons, List.not_mem_nil, or_false] at hp; rcases hp with rfl <;> repeat constructor) (fun w hs => ihl (f) (lt.pl.size) (by have := szO_some lt; have := szO_some rt; omega) hg.1 (by have := szO_some lt; have := szO_some rt; omega) _ w hs) (fun x72 => ?_)
      refine l_nil ?_
      refine m_next _ (by first | exact (List.Perm.refl _ : List.Perm _ ([] ++ _)) | exact (List.Perm.refl _ : List.Perm _ ([_] ++ _)) | exact (List.Perm.refl _ : List.Perm _ ([_, _] ++ _)) | exact (List.Perm.refl _ : List.Perm _ ([_, _, _] ++ _)) | exact (List.Perm.refl _ : List.Perm _ ([_, _, _, _] ++ _)) | exact (List.Perm.refl _ : List.Perm _ ([_, _, _, _, _] ++ _))) (by first | exact fun _ h => h | exact fun _ h => List.mem_cons_of_mem _ h | exact fun _ h => List.mem_cons_of_mem _ (List.mem_cons_of_mem _ h) | exact fun _ h => List.mem_cons_of_mem _ (List.mem_cons_of_mem _ (List.mem_cons_of_mem _ h)) | exact fun _ h => List.mem_cons_of_mem _ (List.mem_cons_of_mem _ (List.mem_cons_of_mem _ (List.mem_cons_of_mem _ h))) | exact fun _ h => List.mem_cons_of_mem _ (List.mem_cons_of_mem _ (List.mem_cons_of_mem _ (List.mem_cons_of_mem _ (List.mem_cons_of_mem _ h))))) ?_
      refine m_run 14 rfl (by kernel_rfl) ?_
      refine l_callf [liesO (some rt)] (X := TO (slO (plO (some rt)) (0) (u - lt.pl.size))) (fun x => ptrO x.1) (fun x => [liesO x.1]) (by decide) call_30 rfl (by intro p hp; simp only [List.mem_cons, List.not_mem_nil, or_false] at hp; rcases hp with rfl <;> repeat constructor) (fun w hs => ihr (0) (u - lt.pl.size) (by have := szO_some lt; have := szO_some rt; omega) hg.2.1 (by have := szO_some lt; have := szO_some rt; omega) _ w hs) (fun x80 => ?_)
      refine l_nil ?_
      refine m_next _ (by first | exact (List.Perm.refl _ : List.Perm _ ([] ++ _)) | exact (List.Perm.refl _ : List.Perm _ ([_] ++ _)) | exact (List.Perm.refl _ : List.Perm _ ([_, _] ++ _)) | exact (List.Perm.refl _ : List.Perm _ ([_, _, _] ++ _)) | exact (List.Perm.refl _ : List.Perm _ ([_, _, _, _] ++ _)) | exact (List.Perm.refl _ : List.Perm _ ([_, _, _, _, _] ++ _))) (by first | exact fun _ h => h | exact fun _ h => List.mem_cons_of_mem _ h | exact fun _ h => List.mem_cons_of_mem _ (List.mem_cons_of_mem _ h) | exact fun _ h => List.mem_cons_of_mem _ (List.mem_cons_of_mem _ (List.mem_cons_of_mem _ h)) | exact fun _ h => List.mem_cons_of_mem _ (List.mem_cons_of_mem _ (List.mem_cons_of_mem _ (List.mem_cons_of_mem _ h))) | exact fun _ h => List.mem_cons_of_mem _ (List.mem_cons_of_mem _ (List.mem_cons_of_mem _ (List.mem_cons_of_mem _ (List.mem_cons_of_mem _ h))))) ?_
      refine m_run 15 rfl (by kernel_rfl) ?_
      refine l_callf [liesO x72.1, liesO x80.1] (X := TO (Rope.join (plO x72.1) (plO x80.1))) (fun x => ptrO x.1) (fun x => [liesO x.1]) (by decide) call_29 rfl (by intro p hp; simp only [List.mem_cons, List.not_mem_nil, or_false] at hp; rcases hp with rfl | rfl <;> repeat constructor) (fun w hs => join_ok x72.1 x80.1 (TO.good x72.2 (slO_good (n := some lt.pl) hg.1 _ _ (Nat.le_refl _))) (TO.good x80.2 (slO_good (n := some rt.pl) hg.2.1 _ _ (by show u - lt.pl.size ≤ rt.pl.size; omega))) (by have h1 := slO_len x72.2 (Nat.le_refl _); have h2 := slO_len x80.2 (by show u - lt.pl.size ≤ rt.pl.size; omega); have h3 : (Rope.textO (plO (some lt))).length = lt.pl.size := rfl; have h4 : (Rope.textO (plO (some rt))).length = rt.pl.size := rfl; omega) _ w hs) (fun x81 => ?_)
      refine l_nil ?_
      refine m_next _ (by first | exact (List.Perm.refl _ : List.Perm _ ([] ++ _)) | exact (List.Perm.refl _ : List.Perm _ ([_] ++ _)) | exact (List.Perm.refl _ : List.Perm _ ([_, _] ++ _)) | exact (List.Perm.refl _ : List.Perm _ ([_, _, _] ++ _)) | exact (List.Perm.refl _ : List.Perm _ ([_, _, _, _] ++ _)) | exact (List.Perm.refl _ : List.Perm _ ([_, _, _, _, _] ++ _))) (by first | exact fun _ h => h | exact fun _ h => List.mem_cons_of_mem _ h | exact fun _ h => List.mem_cons_of_mem _ (List.mem_cons_of_mem _ h) | exact fun _ h => List.mem_cons_of_mem _ (List.mem_cons_of_mem _ (List.mem_cons_of_mem _ h)) | exact fun _ h => List.mem_cons_of_mem _ (List.mem_cons_of_mem _ (List.mem_cons_of_mem _ (List.mem_cons_of_mem _ h))) | exact fun _ h => List.mem_cons_of_mem _ (List.mem_cons_of_mem _ (List.mem_cons_of_mem _ (List.mem_cons_of_mem _ (List.mem_cons_of_mem _ h))))) ?_
      refine m_takep 16 rfl (by kernel_rfl) (by decide) (p_assign rfl) ?_
      refine m_done (by kernel_rfl) ?_
      refine c_ret ?_
      refine c_ret1 rfl rfl (fun w hs => ?_)
      exact ⟨⟨x81.1, by rw [x81.2, x72.2, x80.2]; exact (show Rope.slice (Rope.N.node lt.pl rt.pl) f u = _ by rw [Rope.slice_node (by omega) hn0, if_neg (by omega), if_neg (by omega)]; rfl).symm⟩, rfl, St.sel hs (by repeat constructor)⟩

theorem slice_ok (t : Option T) : SliceC t := by
  have key : ∀ t : T, SliceC (some t) := fun t => by
    induction t with
    | leaf b s => exact fun f u hu hg hsz σ w h => slice_step _ (fun _ _ _ e => by cases e) f u hu hg hsz σ w h
    | node b x y ihx ihy => exact fun f u hu hg hsz σ w h => slice_step _ (fun _ _ _ e => by injection e with e; injection e with _ e1 e2; subst e1; subst e2; exact ⟨ihx, ihy⟩) f u hu hg hsz σ w h
  cases t with
  | none => exact fun f u hu hg hsz σ w h => slice_step _ (fun _ _ _ e => by cases e) f u hu hg hsz σ w h
  | some t => exact key t
end Go.Proofs.Ytdpocfkbnfhcfaa
