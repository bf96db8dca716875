/- The walks of ropes, tenth part; conditions: none. -/
import Derived.Test.YtdpocfkbnfhcfaaWalksI
namespace Go.Proofs.Ytdpocfkbnfhcfaa
open Go Go.Fx Go.Proofs

abbrev Ed3 := Int × Int × List UInt8
def edF (e : Ed3) : List Value := [.int .i64 e.1, .int .i64 e.2.1, str e.2.2]
theorem call_26 : Callable Try.prog 26 := ⟨_, Try.func26, by kernel_rfl, rfl⟩
theorem history_law (s0 : List UInt8) (A : Option Addr) (c : Nat) (l : List Ed3) (hle : ∀ e, e ∈ l → e.2.2.length ≤ 140737488351232) (w : World) (hq : Sl 3 edF A l w) :
   Calls Try.prog 9 #[str s0, .slice A l.length c] w (Ret fun v w' => v = .bool true ∧ Ext [] w w') := by
 refine calls_fx (l := [str s0, .slice A l.length c]) Try.func9 rfl Try.ntmps9 (Nat.le_of_ble_eq_true rfl) ((St.start w).old hq (dep_sl (by decide) hq)) ?_
 refine c_seq ?_
 refine c_reg ?_
 refine l_q (by decide) (p_assign rfl).q ?_
 refine l_nil ?_
 refine c_seq ?_
 refine c_seq ?_
 refine c_reg ?_
 refine l_q (by decide) (p_move rfl).q ?_
 refine l_q (by decide) (p_len_str Try.underlying9 rfl).q ?_
 first | refine l_q (by decide) (p_gtr (j := 1000) rfl rfl rfl rfl).q ?_ | refine l_q (by decide) (p_gtri rfl rfl).q ?_
 refine l_q (by decide) (p_move rfl).q ?_
 first | refine l_splitd (t := 16) rfl (fun h16 => ?_) (fun h16 => ?_) | refine l_splitb (t := 16) rfl (fun h16 => ?_) (fun h16 => ?_)
 ·skip
  refine l_off (j := 3) rfl rfl (by first | (simp; done) | (simp [undef]; done)) (by decide) ?_
  refine l_off (j := 3) rfl rfl (by first | (simp; done) | (simp [undef]; done)) (by decide) ?_
  refine l_off (j := 3) rfl rfl (by first | (simp; done) | (simp [undef]; done)) (by decide) ?_
  refine l_q (by decide) (p_pick rfl rfl).q ?_
  refine l_nil ?_
  refine c_true rfl ?_
  refine c_seq ?_
  refine c_reg ?_
  refine l_q (by decide) (q_call call_11 rfl (fun w hs => awake_ok w)) ?_
  refine l_q (by decide) (p_assign rfl).q ?_
  refine l_nil ?_
  refine c_ret ?_
  refine c_ret1 rfl rfl (fun w hs => ?_)
  exact ⟨rfl, hs.ext⟩
 ·skip
  refine l_g (j := 3) rfl rfl (by decide) (p_move rfl).q ?_
  refine l_g (j := 3) rfl rfl (by decide) (p_len_sl Try.underlying51 rfl).q ?_
  first | refine l_g (j := 3) rfl rfl (by decide) (p_gtr (j := 40) rfl rfl rfl rfl).q ?_ | refine l_g (j := 3) rfl rfl (by decide) (p_gtri rfl rfl).q ?_
  refine l_q (by decide) (p_pick rfl rfl).q ?_
  refine l_nil ?_
  first | refine c_dec rfl (fun h20 => ?_) (fun h20 => ?_) | refine c_cond rfl (fun h20 => ?_) (fun h20 => ?_)
  ·skip
   refine c_seq ?_
   refine c_reg ?_
   refine l_q (by decide) (q_call call_11 rfl (fun w hs => awake_ok w)) ?_
   refine l_q (by decide) (p_assign rfl).q ?_
   refine l_nil ?_
   refine c_ret ?_
   refine c_ret1 rfl rfl (fun w hs => ?_)
   exact ⟨rfl, hs.ext⟩
  ·skip
   refine c_skip ?_
   refine c_seq ?_
   refine c_reg ?_
   refine l_q (by decide) (p_move rfl).q ?_
   refine l_callf [] (X := TO (Rope.build (s0))) (fun x => .agg #[ptrO x.1]) (fun x => [liesO x.1]) (by decide) call_13 rfl (fun _ h => by cases h) (fun w hs => new_ok (s0) (by omega) _ w hs) (fun x23 => ?_)
   refine l_alloc (by decide) inf_26 _ rfl (fun b5 => ?_)
   first | (refine l_storew inf_26 rfl rfl rfl rfl rfl ?_) | (refine l_perm (front1 _ _ _) ?_; refine l_storew inf_26 rfl rfl rfl rfl rfl ?_) | (refine l_perm (front2 _ _ _ _) ?_; refine l_storew inf_26 rfl rfl rfl rfl rfl ?_) | (refine l_perm (front3 _ _ _ _ _) ?_; refine l_storew inf_26 rfl rfl rfl rfl rfl ?_) | (refine l_perm (front4 _ _ _ _ _ _) ?_; refine l_storew inf_26 rfl rfl rfl rfl rfl ?_) | (refine l_storea inf_26 rfl rfl rfl rfl (by decide) ?_) | (refine l_perm (front1 _ _ _) ?_; refine l_storea inf_26 rfl rfl rfl rfl (by decide) ?_) | (refine l_perm (front2 _ _ _ _) ?_; refine l_storea inf_26 rfl rfl rfl rfl (by decide) ?_)
   refine l_nil ?_
   refine c_seq ?_
   refine c_seq ?_
   refine c_reg ?_
   refine l_q (by decide) (p_assign (v := .int .i64 ((0 : Nat) : Int)) rfl).q ?_
   refine l_nil ?_
   refine c_block ?_
   refine c_loop (S := Nat × Option T × List UInt8) (fun zs => zs.1 ≤ l.length ∧ Rope.GoodO (plO zs.2.1) ∧ txO zs.2.1 = zs.2.2 ∧ zs.2.2.length ≤ 2000) (fun zs => l.length - zs.1) (fun zs => [(0, str zs.2.2), (1, .slice A l.length c), (5, .pointer (some ⟨b5, 0, none⟩)), (6, .int .i64 (zs.1 : Int))]) (fun zs => [iCells b5 26 [ptrO zs.2.1]]) (fun zs => [Sl 3 edF A l, liesO zs.2.1]) (0, x23.1, s0) ?_ ?_ ?_ ?_ ?_
   · show (0) ≤ l.length ∧ Rope.GoodO (plO (x23.1)) ∧ txO (x23.1) = (s0) ∧ (s0).length ≤ 2000
     exact ⟨Nat.zero_le _, new_good x23.2, new_text x23.2, by omega⟩
   · exact ⟨rfl, rfl, rfl, rfl, trivial⟩
   · exact .refl _
   · (intro p hp; simp only [List.mem_cons, List.not_mem_nil, or_false] at hp; rcases hp with rfl | rfl <;> repeat constructor)
   rintro ⟨k, t, s⟩ hinv
   have hinv : k ≤ l.length ∧ Rope.GoodO (plO t) ∧ txO t = s ∧ s.length ≤ 2000 := hinv
   have hI := hinv
   have hzt := tx_size hI.2.2.1
   show Cont _ _ _ _ [(0, str s), (1, .slice A l.length c), (5, .pointer (some ⟨b5, 0, none⟩)), (6, .int .i64 (k : Int))] ([iCells b5 26 [ptrO t]]) [Sl 3 edF A l, liesO t]
   refine c_seq ?_
   refine c_seq ?_
   refine c_reg ?_
   refine l_q (by decide) (p_move rfl).q ?_
   refine l_q (by decide) (p_move rfl).q ?_
   refine l_q (by decide) (p_len_sl Try.underlying51 rfl).q ?_
   first | refine l_q (by decide) (p_lss rfl rfl rfl rfl).q ?_ | refine l_q (by decide) (p_lssi rfl rfl).q ?_
   refine l_nil ?_
   first | refine c_dec rfl (fun h27 => ?_) (fun h27 => ?_) | refine c_cond rfl (fun h27 => ?_) (fun h27 => ?_)
   ·skip
    obtain ⟨e, he⟩ := at_some (l := l) (n := k) (by omega)
    have hel := hle e (List.mem_of_getElem? he)
    refine c_skip ?_
    refine c_seq ?_
    refine c_block ?_
    refine c_seq ?_
    refine c_seq ?_
    refine c_reg ?_
    refine l_q (by decide) (p_move rfl).q ?_
    refine l_q (by decide) (p_len_str Try.underlying9 rfl).q ?_
    refine l_q (by decide) (p_move rfl).q ?_
    refine l_q (by decide) (p_move rfl).q ?_
    first | refine l_q (by decide) (r_index Try.underlying51 inf_32 rfl rfl rfl (by first | exact .fact (by repeat constructor) | exact .own (by repeat constructor) (by decide) (fun _ => rfl)) rfl (by omega)).q ?_ | refine l_q (by decide) (r_index Try.underlying51 inf_32 rfl rfl rfl (by first | exact .fact (by repeat constructor) | exact .own (by repeat constructor) (by decide) (fun _ => rfl)) rfl (by decide)).q ?_ | refine l_q (by decide) (p_indexo Try.underlying51 inf_32 rfl rfl rfl (by omega)).q ?_
    first | refine l_q (by decide) (p_faddr (i := 2) 2 Try.underlying32 rfl inf_9 (by decide) rfl rfl).q ?_ | refine l_q (by decide) (p_faddro (i := 2) 2 Try.underlying32 rfl inf_9 (by decide) rfl rfl).q ?_
    first | refine l_q (by decide) (r_loado Try.underlying9 rfl rfl (by repeat constructor) (by rfl)).q ?_ | refine l_q (by decide) (r_load1 Try.underlying9 rfl rfl (by first | exact .fact (by repeat constructor) | exact .own (by repeat constructor) (by decide) (fun _ => rfl)) (by first | assumption | rfl) (by rfl)).q ?_ | refine l_q (by decide) (r_loadf Try.underlying9 rfl rfl (by first | exact .fact (by repeat constructor) | exact .own (by repeat constructor) (by decide) (fun _ => rfl)) (by assumption) (by rfl)).q ?_
    refine l_q (by decide) (p_len_str Try.underlying9 rfl).q ?_
    first | refine l_q (by decide) (p_add rfl rfl rfl rfl (by show _ ≤ (9223372036854775807 : Nat); omega)).q ?_ | refine l_q (by decide) (p_addi rfl rfl (by show (-9223372036854775808 : Int) ≤ _; omega) (by show _ ≤ ((9223372036854775807 : Nat) : Int); omega)).q ?_
    first | refine l_q (by decide) (p_gtr (j := 2000) rfl rfl rfl rfl).q ?_ | refine l_q (by decide) (p_gtri rfl rfl).q ?_
    refine l_nil ?_
    first | refine c_dec rfl (fun h39 => ?_) (fun h39 => ?_) | refine c_cond rfl (fun h39 => ?_) (fun h39 => ?_)
    ·skip
     refine c_seq ?_
     refine c_reg ?_
     refine l_q (by decide) (q_call call_11 rfl (fun w hs => awake_ok w)) ?_
     refine l_q (by decide) (p_assign rfl).q ?_
     refine l_nil ?_
     refine c_ret ?_
     refine c_ret1 rfl rfl (fun w hs => ?_)
     exact ⟨rfl, hs.ext⟩
    ·skip
     have hrl := repT_len s e.1 e.2.1 e.2.2
     refine c_skip ?_
     refine c_seq ?_
     refine m_draw [] mixed ?_
     first | refine m_take 0 rfl (by kernel_rfl) (by decide) (by first | exact (List.Perm.refl _ : List.Perm _ ([] ++ _)) | exact (List.Perm.refl _ : List.Perm _ ([_] ++ _)) | exact (List.Perm.refl _ : List.Perm _ ([_, _] ++ _)) | exact (List.Perm.refl _ : List.Perm _ ([_, _, _] ++ _)) | exact (List.Perm.refl _ : List.Perm _ ([_, _, _, _] ++ _)) | exact (List.Perm.refl _ : List.Perm _ ([_, _, _, _, _] ++ _))) (by first | exact fun _ h => h | exact fun _ h => List.mem_cons_of_mem _ h | exact fun _ h => List.mem_cons_of_mem _ (List.mem_cons_of_mem _ h) | exact fun _ h => List.mem_cons_of_mem _ (List.mem_cons_of_mem _ (List.mem_cons_of_mem _ h)) | exact fun _ h => List.mem_cons_of_mem _ (List.mem_cons_of_mem _ (List.mem_cons_of_mem _ (List.mem_cons_of_mem _ h))) | exact fun _ h => List.mem_cons_of_mem _ (List.mem_cons_of_mem _ (List.mem_cons_of_mem _ (List.mem_cons_of_mem _ (List.mem_cons_of_mem _ h)))) | exact fun _ h => List.mem_cons_of_mem _ (List.mem_cons_of_mem _ (List.mem_cons_of_mem _ (List.mem_cons_of_mem _ (List.mem_cons_of_mem _ (List.mem_cons_of_mem _ h))))) | exact fun _ h => List.mem_cons_of_mem _ (List.mem_cons_of_mem _ (List.mem_cons_of_mem _ (List.mem_cons_of_mem _ (List.mem_cons_of_mem _ (List.mem_cons_of_mem _ (List.mem_cons_of_mem _ h)))))) | exact fun _ h => List.mem_cons_of_mem _ (List.mem_cons_of_mem _ (List.mem_cons_of_mem _ (List.mem_cons_of_mem _ (List.mem_cons_of_mem _ (List.mem_cons_of_mem _ (List.mem_cons_of_mem _ (List.mem_cons_of_mem _ h)))))))) (r_loada Try.underlying26 rfl inf_26 rfl (by first | exact .fact (by repeat constructor) | exact .own (by repeat constructor) (by decide) (fun _ => rfl)) (by assumption)).r ?_ | refine m_take 0 rfl (by kernel_rfl) (by decide) (by first | exact (List.Perm.refl _ : List.Perm _ ([] ++ _)) | exact (List.Perm.refl _ : List.Perm _ ([_] ++ _)) | exact (List.Perm.refl _ : List.Perm _ ([_, _] ++ _)) | exact (List.Perm.refl _ : List.Perm _ ([_, _, _] ++ _)) | exact (List.Perm.refl _ : List.Perm _ ([_, _, _, _] ++ _)) | exact (List.Perm.refl _ : List.Perm _ ([_, _, _, _, _] ++ _))) (by first | exact fun _ h => h | exact fun _ h => List.mem_cons_of_mem _ h | exact fun _ h => List.mem_cons_of_mem _ (List.mem_cons_of_mem _ h) | exact fun _ h => List.mem_cons_of_mem _ (List.mem_cons_of_mem _ (List.mem_cons_of_mem _ h)) | exact fun _ h => List.mem_cons_of_mem _ (List.mem_cons_of_mem _ (List.mem_cons_of_mem _ (List.mem_cons_of_mem _ h))) | exact fun _ h => List.mem_cons_of_mem _ (List.mem_cons_of_mem _ (List.mem_cons_of_mem _ (List.mem_cons_of_mem _ (List.mem_cons_of_mem _ h)))) | exact fun _ h => List.mem_cons_of_mem _ (List.mem_cons_of_mem _ (List.mem_cons_of_mem _ (List.mem_cons_of_mem _ (List.mem_cons_of_mem _ (List.mem_cons_of_mem _ h))))) | exact fun _ h => List.mem_cons_of_mem _ (List.mem_cons_of_mem _ (List.mem_cons_of_mem _ (List.mem_cons_of_mem _ (List.mem_cons_of_mem _ (List.mem_cons_of_mem _ (List.mem_cons_of_mem _ h)))))) | exact fun _ h => List.mem_cons_of_mem _ (List.mem_cons_of_mem _ (List.mem_cons_of_mem _ (List.mem_cons_of_mem _ (List.mem_cons_of_mem _ (List.mem_cons_of_mem _ (List.mem_cons_of_mem _ (List.mem_cons_of_mem _ h)))))))) (r_loadow Try.underlying26 rfl inf_26 rfl (by repeat constructor) (by rfl)).r ?_ | refine m_take 0 rfl (by kernel_rfl) (by decide) (by first | exact (List.Perm.refl _ : List.Perm _ ([] ++ _)) | exact (List.Perm.refl _ : List.Perm _ ([_] ++ _)) | exact (List.Perm.refl _ : List.Perm _ ([_, _] ++ _)) | exact (List.Perm.refl _ : List.Perm _ ([_, _, _] ++ _)) | exact (List.Perm.refl _ : List.Perm _ ([_, _, _, _] ++ _)) | exact (List.Perm.refl _ : List.Perm _ ([_, _, _, _, _] ++ _))) (by first | exact fun _ h => h | exact fun _ h => List.mem_cons_of_mem _ h | exact fun _ h => List.mem_cons_of_mem _ (List.mem_cons_of_mem _ h) | exact fun _ h => List.mem_cons_of_mem _ (List.mem_cons_of_mem _ (List.mem_cons_of_mem _ h)) | exact fun _ h => List.mem_cons_of_mem _ (List.mem_cons_of_mem _ (List.mem_cons_of_mem _ (List.mem_cons_of_mem _ h))) | exact fun _ h => List.mem_cons_of_mem _ (List.mem_cons_of_mem _ (List.mem_cons_of_mem _ (List.mem_cons_of_mem _ (List.mem_cons_of_mem _ h)))) | exact fun _ h => List.mem_cons_of_mem _ (List.mem_cons_of_mem _ (List.mem_cons_of_mem _ (List.mem_cons_of_mem _ (List.mem_cons_of_mem _ (List.mem_cons_of_mem _ h))))) | exact fun _ h => List.mem_cons_of_mem _ (List.mem_cons_of_mem _ (List.mem_cons_of_mem _ (List.mem_cons_of_mem _ (List.mem_cons_of_mem _ (List.mem_cons_of_mem _ (List.mem_cons_of_mem _ h)))))) | exact fun _ h => List.mem_cons_of_mem _ (List.mem_cons_of_mem _ (List.mem_cons_of_mem _ (List.mem_cons_of_mem _ (List.mem_cons_of_mem _ (List.mem_cons_of_mem _ (List.mem_cons_of_mem _ (List.mem_cons_of_mem _ h)))))))) (r_loadoa Try.underlying26 rfl inf_26 rfl (by repeat constructor) (by rfl) (fun j u h => h)).r ?_
     refine m_takep 1 rfl (by kernel_rfl) (by decide) (p_move rfl) ?_
     refine m_takep 2 rfl (by kernel_rfl) (by decide) (p_move rfl) ?_
     first | refine m_take 3 rfl (by kernel_rfl) (by decide) (by first | exact (List.Perm.refl _ : List.Perm _ ([] ++ _)) | exact (List.Perm.refl _ : List.Perm _ ([_] ++ _)) | exact (List.Perm.refl _ : List.Perm _ ([_, _] ++ _)) | exact (List.Perm.refl _ : List.Perm _ ([_, _, _] ++ _)) | exact (List.Perm.refl _ : List.Perm _ ([_, _, _, _] ++ _)) | exact (List.Perm.refl _ : List.Perm _ ([_, _, _, _, _] ++ _))) (by first | exact fun _ h => h | exact fun _ h => List.mem_cons_of_mem _ h | exact fun _ h => List.mem_cons_of_mem _ (List.mem_cons_of_mem _ h) | exact fun _ h => List.mem_cons_of_mem _ (List.mem_cons_of_mem _ (List.mem_cons_of_mem _ h)) | exact fun _ h => List.mem_cons_of_mem _ (List.mem_cons_of_mem _ (List.mem_cons_of_mem _ (List.mem_cons_of_mem _ h))) | exact fun _ h => List.mem_cons_of_mem _ (List.mem_cons_of_mem _ (List.mem_cons_of_mem _ (List.mem_cons_of_mem _ (List.mem_cons_of_mem _ h)))) | exact fun _ h => List.mem_cons_of_mem _ (List.mem_cons_of_mem _ (List.mem_cons_of_mem _ (List.mem_cons_of_mem _ (List.mem_cons_of_mem _ (List.mem_cons_of_mem _ h))))) | exact fun _ h => List.mem_cons_of_mem _ (List.mem_cons_of_mem _ (List.mem_cons_of_mem _ (List.mem_cons_of_mem _ (List.mem_cons_of_mem _ (List.mem_cons_of_mem _ (List.mem_cons_of_mem _ h)))))) | exact fun _ h => List.mem_cons_of_mem _ (List.mem_cons_of_mem _ (List.mem_cons_of_mem _ (List.mem_cons_of_mem _ (List.mem_cons_of_mem _ (List.mem_cons_of_mem _ (List.mem_cons_of_mem _ (List.mem_cons_of_mem _ h)))))))) (r_index Try.underlying51 inf_32 rfl rfl rfl (by first | exact .fact (by repeat constructor) | exact .own (by repeat constructor) (by decide) (fun _ => rfl)) rfl (by omega)).r ?_ | refine m_take 3 rfl (by kernel_rfl) (by decide) (by first | exact (List.Perm.refl _ : List.Perm _ ([] ++ _)) | exact (List.Perm.refl _ : List.Perm _ ([_] ++ _)) | exact (List.Perm.refl _ : List.Perm _ ([_, _] ++ _)) | exact (List.Perm.refl _ : List.Perm _ ([_, _, _] ++ _)) | exact (List.Perm.refl _ : List.Perm _ ([_, _, _, _] ++ _)) | exact (List.Perm.refl _ : List.Perm _ ([_, _, _, _, _] ++ _))) (by first | exact fun _ h => h | exact fun _ h => List.mem_cons_of_mem _ h | exact fun _ h => List.mem_cons_of_mem _ (List.mem_cons_of_mem _ h) | exact fun _ h => List.mem_cons_of_mem _ (List.mem_cons_of_mem _ (List.mem_cons_of_mem _ h)) | exact fun _ h => List.mem_cons_of_mem _ (List.mem_cons_of_mem _ (List.mem_cons_of_mem _ (List.mem_cons_of_mem _ h))) | exact fun _ h => List.mem_cons_of_mem _ (List.mem_cons_of_mem _ (List.mem_cons_of_mem _ (List.mem_cons_of_mem _ (List.mem_cons_of_mem _ h)))) | exact fun _ h => List.mem_cons_of_mem _ (List.mem_cons_of_mem _ (List.mem_cons_of_mem _ (List.mem_cons_of_mem _ (List.mem_cons_of_mem _ (List.mem_cons_of_mem _ h))))) | exact fun _ h => List.mem_cons_of_mem _ (List.mem_cons_of_mem _ (List.mem_cons_of_mem _ (List.mem_cons_of_mem _ (List.mem_cons_of_mem _ (List.mem_cons_of_mem _ (List.mem_cons_of_mem _ h)))))) | exact fun _ h => List.mem_cons_of_mem _ (List.mem_cons_of_mem _ (List.mem_cons_of_mem _ (List.mem_cons_of_mem _ (List.mem_cons_of_mem _ (List.mem_cons_of_mem _ (List.mem_cons_of_mem _ (List.mem_cons_of_mem _ h)))))))) (r_index Try.underlying51 inf_32 rfl rfl rfl (by first | exact .fact (by repeat constructor) | exact .own (by repeat constructor) (by decide) (fun _ => rfl)) rfl (by decide)).r ?_ | refine m_takep 3 rfl (by kernel_rfl) (by decide) (p_indexo Try.underlying51 inf_32 rfl rfl rfl (by omega)) ?_
     first | refine m_take 4 rfl (by kernel_rfl) (by decide) (by first | exact (List.Perm.refl _ : List.Perm _ ([] ++ _)) | exact (List.Perm.refl _ : List.Perm _ ([_] ++ _)) | exact (List.Perm.refl _ : List.Perm _ ([_, _] ++ _)) | exact (List.Perm.refl _ : List.Perm _ ([_, _, _] ++ _)) | exact (List.Perm.refl _ : List.Perm _ ([_, _, _, _] ++ _)) | exact (List.Perm.refl _ : List.Perm _ ([_, _, _, _, _] ++ _))) (by first | exact fun _ h => h | exact fun _ h => List.mem_cons_of_mem _ h | exact fun _ h => List.mem_cons_of_mem _ (List.mem_cons_of_mem _ h) | exact fun _ h => List.mem_cons_of_mem _ (List.mem_cons_of_mem _ (List.mem_cons_of_mem _ h)) | exact fun _ h => List.mem_cons_of_mem _ (List.mem_cons_of_mem _ (List.mem_cons_of_mem _ (List.mem_cons_of_mem _ h))) | exact fun _ h => List.mem_cons_of_mem _ (List.mem_cons_of_mem _ (List.mem_cons_of_mem _ (List.mem_cons_of_mem _ (List.mem_cons_of_mem _ h)))) | exact fun _ h => List.mem_cons_of_mem _ (List.mem_cons_of_mem _ (List.mem_cons_of_mem _ (List.mem_cons_of_mem _ (List.mem_cons_of_mem _ (List.mem_cons_of_mem _ h))))) | exact fun _ h => List.mem_cons_of_mem _ (List.mem_cons_of_mem _ (List.mem_cons_of_mem _ (List.mem_cons_of_mem _ (List.mem_cons_of_mem _ (List.mem_cons_of_mem _ (List.mem_cons_of_mem _ h)))))) | exact fun _ h => List.mem_cons_of_mem _ (List.mem_cons_of_mem _ (List.mem_cons_of_mem _ (List.mem_cons_of_mem _ (List.mem_cons_of_mem _ (List.mem_cons_of_mem _ (List.mem_cons_of_mem _ (List.mem_cons_of_mem _ h)))))))) (r_loada Try.underlying32 rfl inf_32 rfl (by first | exact .fact (by repeat constructor) | exact .own (by repeat constructor) (by decide) (fun _ => rfl)) (by assumption)).r ?_ | refine m_take 4 rfl (by kernel_rfl) (by decide) (by first | exact (List.Perm.refl _ : List.Perm _ ([] ++ _)) | exact (List.Perm.refl _ : List.Perm _ ([_] ++ _)) | exact (List.Perm.refl _ : List.Perm _ ([_, _] ++ _)) | exact (List.Perm.refl _ : List.Perm _ ([_, _, _] ++ _)) | exact (List.Perm.refl _ : List.Perm _ ([_, _, _, _] ++ _)) | exact (List.Perm.refl _ : List.Perm _ ([_, _, _, _, _] ++ _))) (by first | exact fun _ h => h | exact fun _ h => List.mem_cons_of_mem _ h | exact fun _ h => List.mem_cons_of_mem _ (List.mem_cons_of_mem _ h) | exact fun _ h => List.mem_cons_of_mem _ (List.mem_cons_of_mem _ (List.mem_cons_of_mem _ h)) | exact fun _ h => List.mem_cons_of_mem _ (List.mem_cons_of_mem _ (List.mem_cons_of_mem _ (List.mem_cons_of_mem _ h))) | exact fun _ h => List.mem_cons_of_mem _ (List.mem_cons_of_mem _ (List.mem_cons_of_mem _ (List.mem_cons_of_mem _ (List.mem_cons_of_mem _ h)))) | exact fun _ h => List.mem_cons_of_mem _ (List.mem_cons_of_mem _ (List.mem_cons_of_mem _ (List.mem_cons_of_mem _ (List.mem_cons_of_mem _ (List.mem_cons_of_mem _ h))))) | exact fun _ h => List.mem_cons_of_mem _ (List.mem_cons_of_mem _ (List.mem_cons_of_mem _ (List.mem_cons_of_mem _ (List.mem_cons_of_mem _ (List.mem_cons_of_mem _ (List.mem_cons_of_mem _ h)))))) | exact fun _ h => List.mem_cons_of_mem _ (List.mem_cons_of_mem _ (List.mem_cons_of_mem _ (List.mem_cons_of_mem _ (List.mem_cons_of_mem _ (List.mem_cons_of_mem _ (List.mem_cons_of_mem _ (List.mem_cons_of_mem _ h)))))))) (r_loadow Try.underlying32 rfl inf_32 rfl (by repeat constructor) (by rfl)).r ?_ | refine m_take 4 rfl (by kernel_rfl) (by decide) (by first | exact (List.Perm.refl _ : List.Perm _ ([] ++ _)) | exact (List.Perm.refl _ : List.Perm _ ([_] ++ _)) | exact (List.Perm.refl _ : List.Perm _ ([_, _] ++ _)) | exact (List.Perm.refl _ : List.Perm _ ([_, _, _] ++ _)) | exact (List.Perm.refl _ : List.Perm _ ([_, _, _, _] ++ _)) | exact (List.Perm.refl _ : List.Perm _ ([_, _, _, _, _] ++ _))) (by first | exact fun _ h => h | exact fun _ h => List.mem_cons_of_mem _ h | exact fun _ h => List.mem_cons_of_mem _ (List.mem_cons_of_mem _ h) | exact fun _ h => List.mem_cons_of_mem _ (List.mem_cons_of_mem _ (List.mem_cons_of_mem _ h)) | exact fun _ h => List.mem_cons_of_mem _ (List.mem_cons_of_mem _ (List.mem_cons_of_mem _ (List.mem_cons_of_mem _ h))) | exact fun _ h => List.mem_cons_of_mem _ (List.mem_cons_of_mem _ (List.mem_cons_of_mem _ (List.mem_cons_of_mem _ (List.mem_cons_of_mem _ h)))) | exact fun _ h => List.mem_cons_of_mem _ (List.mem_cons_of_mem _ (List.mem_cons_of_mem _ (List.mem_cons_of_mem _ (List.mem_cons_of_mem _ (List.mem_cons_of_mem _ h))))) | exact fun _ h => List.mem_cons_of_mem _ (List.mem_cons_of_mem _ (List.mem_cons_of_mem _ (List.mem_cons_of_mem _ (List.mem_cons_of_mem _ (List.mem_cons_of_mem _ (List.mem_cons_of_mem _ h)))))) | exact fun _ h => List.mem_cons_of_mem _ (List.mem_cons_of_mem _ (List.mem_cons_of_mem _ (List.mem_cons_of_mem _ (List.mem_cons_of_mem _ (List.mem_cons_of_mem _ (List.mem_cons_of_mem _ (List.mem_cons_of_mem _ h)))))))) (r_loadoa Try.underlying32 rfl inf_32 rfl (by repeat constructor) (by rfl) (fun j u h => h)).r ?_
     refine m_two 5 9 rfl rfl (by kernel_rfl) ?_ ?_
     ·skip
      refine l_callf [liesO (t)] (X := RP (t) (e.1) (e.2.1) (e.2.2)) (fun p => .tuple #[.agg #[ptrO p.1.1], .int .i64 p.1.2]) (fun p => [liesO p.1.1]) (by decide) call_15 rfl (by intro p hp; simp only [List.mem_cons, List.not_mem_nil, or_false] at hp; rcases hp with rfl <;> repeat constructor) (fun w hs => replace_ok (t) (e.1) (e.2.1) (e.2.2) (hI.2.1) (by omega) (by omega) _ w hs) (fun p47 => ?_)
      refine l_nil ?_
      refine m_next _ (by first | exact (List.Perm.refl _ : List.Perm _ ([] ++ _)) | exact (List.Perm.refl _ : List.Perm _ ([_] ++ _)) | exact (List.Perm.refl _ : List.Perm _ ([_, _] ++ _)) | exact (List.Perm.refl _ : List.Perm _ ([_, _, _] ++ _)) | exact (List.Perm.refl _ : List.Perm _ ([_, _, _, _] ++ _)) | exact (List.Perm.refl _ : List.Perm _ ([_, _, _, _, _] ++ _))) (by first | exact fun _ h => h | exact fun _ h => List.mem_cons_of_mem _ h | exact fun _ h => List.mem_cons_of_mem _ (List.mem_cons_of_mem _ h) | exact fun _ h => List.mem_cons_of_mem _ (List.mem_cons_of_mem _ (List.mem_cons_of_mem _ h)) | exact fun _ h => List.mem_cons_of_mem _ (List.mem_cons_of_mem _ (List.mem_cons_of_mem _ (List.mem_cons_of_mem _ h))) | exact fun _ h => List.mem_cons_of_mem _ (List.mem_cons_of_mem _ (List.mem_cons_of_mem _ (List.mem_cons_of_mem _ (List.mem_cons_of_mem _ h)))) | exact fun _ h => List.mem_cons_of_mem _ (List.mem_cons_of_mem _ (List.mem_cons_of_mem _ (List.mem_cons_of_mem _ (List.mem_cons_of_mem _ (List.mem_cons_of_mem _ h))))) | exact fun _ h => List.mem_cons_of_mem _ (List.mem_cons_of_mem _ (List.mem_cons_of_mem _ (List.mem_cons_of_mem _ (List.mem_cons_of_mem _ (List.mem_cons_of_mem _ (List.mem_cons_of_mem _ h)))))) | exact fun _ h => List.mem_cons_of_mem _ (List.mem_cons_of_mem _ (List.mem_cons_of_mem _ (List.mem_cons_of_mem _ (List.mem_cons_of_mem _ (List.mem_cons_of_mem _ (List.mem_cons_of_mem _ (List.mem_cons_of_mem _ h)))))))) ?_
      refine m_takep 6 rfl (by kernel_rfl) (by decide) (p_move rfl) ?_
      refine m_takep 7 rfl (by kernel_rfl) (by decide) (p_extract rfl rfl) ?_
      refine m_takep 8 rfl (by kernel_rfl) (by decide) (p_extract rfl rfl) ?_
      refine m_run 9 rfl (by kernel_rfl) ?_
      refine l_alloc (by decide) inf_26 _ rfl (fun b7 => ?_)
      refine l_nil ?_
      refine m_next _ (by first | exact (List.Perm.refl _ : List.Perm _ ([] ++ _)) | exact (List.Perm.refl _ : List.Perm _ ([_] ++ _)) | exact (List.Perm.refl _ : List.Perm _ ([_, _] ++ _)) | exact (List.Perm.refl _ : List.Perm _ ([_, _, _] ++ _)) | exact (List.Perm.refl _ : List.Perm _ ([_, _, _, _] ++ _)) | exact (List.Perm.refl _ : List.Perm _ ([_, _, _, _, _] ++ _))) (by first | exact fun _ h => h | exact fun _ h => List.mem_cons_of_mem _ h | exact fun _ h => List.mem_cons_of_mem _ (List.mem_cons_of_mem _ h) | exact fun _ h => List.mem_cons_of_mem _ (List.mem_cons_of_mem _ (List.mem_cons_of_mem _ h)) | exact fun _ h => List.mem_cons_of_mem _ (List.mem_cons_of_mem _ (List.mem_cons_of_mem _ (List.mem_cons_of_mem _ h))) | exact fun _ h => List.mem_cons_of_mem _ (List.mem_cons_of_mem _ (List.mem_cons_of_mem _ (List.mem_cons_of_mem _ (List.mem_cons_of_mem _ h)))) | exact fun _ h => List.mem_cons_of_mem _ (List.mem_cons_of_mem _ (List.mem_cons_of_mem _ (List.mem_cons_of_mem _ (List.mem_cons_of_mem _ (List.mem_cons_of_mem _ h))))) | exact fun _ h => List.mem_cons_of_mem _ (List.mem_cons_of_mem _ (List.mem_cons_of_mem _ (List.mem_cons_of_mem _ (List.mem_cons_of_mem _ (List.mem_cons_of_mem _ (List.mem_cons_of_mem _ h)))))) | exact fun _ h => List.mem_cons_of_mem _ (List.mem_cons_of_mem _ (List.mem_cons_of_mem _ (List.mem_cons_of_mem _ (List.mem_cons_of_mem _ (List.mem_cons_of_mem _ (List.mem_cons_of_mem _ (List.mem_cons_of_mem _ h)))))))) ?_
      refine m_run 10 rfl (by kernel_rfl) ?_
      first | (refine l_storew inf_26 rfl rfl rfl rfl rfl ?_) | (refine l_perm (front1 _ _ _) ?_; refine l_storew inf_26 rfl rfl rfl rfl rfl ?_) | (refine l_perm (front2 _ _ _ _) ?_; refine l_storew inf_26 rfl rfl rfl rfl rfl ?_) | (refine l_perm (front3 _ _ _ _ _) ?_; refine l_storew inf_26 rfl rfl rfl rfl rfl ?_) | (refine l_perm (front4 _ _ _ _ _ _) ?_; refine l_storew inf_26 rfl rfl rfl rfl rfl ?_) | (refine l_storea inf_26 rfl rfl rfl rfl (by decide) ?_) | (refine l_perm (front1 _ _ _) ?_; refine l_storea inf_26 rfl rfl rfl rfl (by decide) ?_) | (refine l_perm (front2 _ _ _ _) ?_; refine l_storea inf_26 rfl rfl rfl rfl (by decide) ?_)
      refine l_nil ?_
      refine m_next _ (by first | exact (List.Perm.refl _ : List.Perm _ ([] ++ _)) | exact (List.Perm.refl _ : List.Perm _ ([_] ++ _)) | exact (List.Perm.refl _ : List.Perm _ ([_, _] ++ _)) | exact (List.Perm.refl _ : List.Perm _ ([_, _, _] ++ _)) | exact (List.Perm.refl _ : List.Perm _ ([_, _, _, _] ++ _)) | exact (List.Perm.refl _ : List.Perm _ ([_, _, _, _, _] ++ _))) (by first | exact fun _ h => h | exact fun _ h => List.mem_cons_of_mem _ h | exact fun _ h => List.mem_cons_of_mem _ (List.mem_cons_of_mem _ h) | exact fun _ h => List.mem_cons_of_mem _ (List.mem_cons_of_mem _ (List.mem_cons_of_mem _ h)) | exact fun _ h => List.mem_cons_of_mem _ (List.mem_cons_of_mem _ (List.mem_cons_of_mem _ (List.mem_cons_of_mem _ h))) | exact fun _ h => List.mem_cons_of_mem _ (List.mem_cons_of_mem _ (List.mem_cons_of_mem _ (List.mem_cons_of_mem _ (List.mem_cons_of_mem _ h)))) | exact fun _ h => List.mem_cons_of_mem _ (List.mem_cons_of_mem _ (List.mem_cons_of_mem _ (List.mem_cons_of_mem _ (List.mem_cons_of_mem _ (List.mem_cons_of_mem _ h))))) | exact fun _ h => List.mem_cons_of_mem _ (List.mem_cons_of_mem _ (List.mem_cons_of_mem _ (List.mem_cons_of_mem _ (List.mem_cons_of_mem _ (List.mem_cons_of_mem _ (List.mem_cons_of_mem _ h)))))) | exact fun _ h => List.mem_cons_of_mem _ (List.mem_cons_of_mem _ (List.mem_cons_of_mem _ (List.mem_cons_of_mem _ (List.mem_cons_of_mem _ (List.mem_cons_of_mem _ (List.mem_cons_of_mem _ (List.mem_cons_of_mem _ h)))))))) ?_
      refine m_takep 11 rfl (by kernel_rfl) (by decide) (p_assign rfl) ?_
      refine m_done (by kernel_rfl) ?_
      refine c_seq ?_
      refine c_reg ?_
      refine l_q (by decide) (p_move rfl).q ?_
      refine l_q (by decide) (p_move rfl).q ?_
      refine l_q (by decide) (p_move rfl).q ?_
      first | refine l_q (by decide) (r_index Try.underlying51 inf_32 rfl rfl rfl (by first | exact .fact (by repeat constructor) | exact .own (by repeat constructor) (by decide) (fun _ => rfl)) rfl (by omega)).q ?_ | refine l_q (by decide) (r_index Try.underlying51 inf_32 rfl rfl rfl (by first | exact .fact (by repeat constructor) | exact .own (by repeat constructor) (by decide) (fun _ => rfl)) rfl (by decide)).q ?_ | refine l_q (by decide) (p_indexo Try.underlying51 inf_32 rfl rfl rfl (by omega)).q ?_
      have htp : txO p47.1.1 = (repT s e.1 e.2.1 e.2.2).1 := p47.2.2.1.trans (by rw [hI.2.2.1])
      have hep : p47.1.2 = (repT s e.1 e.2.1 e.2.2).2 := p47.2.2.2.trans (by rw [hI.2.2.1])
      first | refine l_q (by decide) (r_loada Try.underlying32 rfl inf_32 rfl (by first | exact .fact (by repeat constructor) | exact .own (by repeat constructor) (by decide) (fun _ => rfl)) (by assumption)).q ?_ | refine l_q (by decide) (r_loadow Try.underlying32 rfl inf_32 rfl (by repeat constructor) (by rfl)).q ?_ | refine l_q (by decide) (r_loadoa Try.underlying32 rfl inf_32 rfl (by repeat constructor) (by rfl) (fun j u h => h)).q ?_
      refine l_q (by decide) (q_call call_16 rfl (fun w hs => refrep_ok s (by omega) e.1 e.2.1 e.2.2 (by omega) w)) ?_
      refine l_q (by decide) (p_move rfl).q ?_
      refine l_q (by decide) (p_extract rfl rfl).q ?_
      refine l_q (by decide) (p_extract rfl rfl).q ?_
      refine l_q (by decide) (p_assign rfl).q ?_
      refine l_q (by decide) (p_assign rfl).q ?_
      refine l_nil ?_
      refine c_seq ?_
      refine c_seq ?_
      refine c_reg ?_
      refine l_q (by decide) (p_move rfl).q ?_
      refine l_q (by decide) (p_move rfl).q ?_
      first | refine l_q (by decide) (((p_neq rfl rfl rfl rfl)).to (u := .bool false) (by rw [decide_eq_false (fun h => h hep)])).q ?_ | refine l_q (by decide) (((p_neqi rfl rfl)).to (u := .bool false) (by rw [decide_eq_false (fun h => h hep)])).q ?_
      refine l_nil ?_
      refine c_false rfl ?_
      refine c_skip ?_
      refine c_seq ?_
      refine c_seq ?_
      refine c_reg ?_
      refine l_q (by decide) (p_move rfl).q ?_
      first | refine l_q (by decide) (p_neq (j := 0) rfl rfl rfl rfl).q ?_ | refine l_q (by decide) (p_neqi rfl rfl).q ?_
      refine l_nil ?_
      first | refine c_dec rfl (fun h63 => ?_) (fun h63 => ?_) | refine c_cond rfl (fun h63 => ?_) (fun h63 => ?_)
      ·skip
       refine c_exit ?_
       refine c_here ?_
       refine c_reg ?_
       refine l_q (by decide) (p_move rfl).q ?_
       first | refine l_q (by decide) (p_add (j := 1) rfl rfl rfl rfl (by show _ ≤ (9223372036854775807 : Nat); omega)).q ?_ | refine l_q (by decide) (p_addi rfl rfl (by show (-9223372036854775808 : Int) ≤ _; omega) (by show _ ≤ ((9223372036854775807 : Nat) : Int); omega)).q ?_
       refine l_q (by decide) (p_assign rfl).q ?_
       refine l_nil ?_
       first | (refine c_drop (x := iCells b7 _ _) ?_) | (refine c_perm (front1 _ _ _) ?_; refine c_drop (x := iCells b7 _ _) ?_) | (refine c_perm (front2 _ _ _ _) ?_; refine c_drop (x := iCells b7 _ _) ?_) | (refine c_perm (front3 _ _ _ _ _) ?_; refine c_drop (x := iCells b7 _ _) ?_) | (refine c_perm (front4 _ _ _ _ _ _) ?_; refine c_drop (x := iCells b7 _ _) ?_)
       refine c_join ((k + 1), (t), (s)) ?_ ?_ ?_ ?_
       ·show ((k + 1) ≤ l.length ∧ Rope.GoodO (plO (t)) ∧ txO (t) = (s) ∧ (s).length ≤ 2000) ∧ l.length - (k + 1) < l.length - k
        exact ⟨⟨by omega, hI.2⟩, by omega⟩
       · exact ⟨rfl, rfl, rfl, rfl, trivial⟩
       ·show List.Perm _ ([iCells b5 26 [ptrO (t)]])
        exact .refl _
       · (intro p hp; simp only [List.mem_cons, List.not_mem_nil, or_false] at hp; rcases hp with rfl | rfl <;> repeat constructor)
      ·skip
       refine c_skip ?_
       refine c_seq ?_
       refine c_reg ?_
       first | refine l_q (by decide) (r_loada Try.underlying26 rfl inf_26 rfl (by first | exact .fact (by repeat constructor) | exact .own (by repeat constructor) (by decide) (fun _ => rfl)) (by assumption)).q ?_ | refine l_q (by decide) (r_loadow Try.underlying26 rfl inf_26 rfl (by repeat constructor) (by rfl)).q ?_ | refine l_q (by decide) (r_loadoa Try.underlying26 rfl inf_26 rfl (by repeat constructor) (by rfl) (fun j u h => h)).q ?_
       refine l_q (by decide) (p_move rfl).q ?_
       first | (refine l_storew inf_26 rfl rfl rfl rfl rfl ?_) | (refine l_perm (front1 _ _ _) ?_; refine l_storew inf_26 rfl rfl rfl rfl rfl ?_) | (refine l_perm (front2 _ _ _ _) ?_; refine l_storew inf_26 rfl rfl rfl rfl rfl ?_) | (refine l_perm (front3 _ _ _ _ _) ?_; refine l_storew inf_26 rfl rfl rfl rfl rfl ?_) | (refine l_perm (front4 _ _ _ _ _ _) ?_; refine l_storew inf_26 rfl rfl rfl rfl rfl ?_) | (refine l_storea inf_26 rfl rfl rfl rfl (by decide) ?_) | (refine l_perm (front1 _ _ _) ?_; refine l_storea inf_26 rfl rfl rfl rfl (by decide) ?_) | (refine l_perm (front2 _ _ _ _) ?_; refine l_storea inf_26 rfl rfl rfl rfl (by decide) ?_)
       refine l_q (by decide) (p_assign rfl).q ?_
       refine l_nil ?_
       refine c_seq ?_
       refine c_reg ?_
       first | refine l_q (by decide) (r_loada Try.underlying26 rfl inf_26 rfl (by first | exact .fact (by repeat constructor) | exact .own (by repeat constructor) (by decide) (fun _ => rfl)) (by assumption)).q ?_ | refine l_q (by decide) (r_loadow Try.underlying26 rfl inf_26 rfl (by repeat constructor) (by rfl)).q ?_ | refine l_q (by decide) (r_loadoa Try.underlying26 rfl inf_26 rfl (by repeat constructor) (by rfl) (fun j u h => h)).q ?_
       refine l_q (by decide) (p_move rfl).q ?_
       refine l_q (by decide) (q_call call_12 rfl (fun w hs => holds_ok (p47.1.1) ((repT s e.1 e.2.1 e.2.2).1) (p47.2.1) (htp) (by omega) w (hs.facts (liesO (p47.1.1)) (by repeat constructor)).1)) ?_
       refine l_q (by decide) (p_not rfl).q ?_
       refine l_nil ?_
       refine c_false rfl ?_
       refine c_skip ?_
       refine c_reg ?_
       refine l_q (by decide) (p_move rfl).q ?_
       first | refine l_q (by decide) (p_add (j := 1) rfl rfl rfl rfl (by show _ ≤ (9223372036854775807 : Nat); omega)).q ?_ | refine l_q (by decide) (p_addi rfl rfl (by show (-9223372036854775808 : Int) ≤ _; omega) (by show _ ≤ ((9223372036854775807 : Nat) : Int); omega)).q ?_
       refine l_q (by decide) (p_assign rfl).q ?_
       refine l_nil ?_
       first | (refine c_drop (x := iCells b7 _ _) ?_) | (refine c_perm (front1 _ _ _) ?_; refine c_drop (x := iCells b7 _ _) ?_) | (refine c_perm (front2 _ _ _ _) ?_; refine c_drop (x := iCells b7 _ _) ?_) | (refine c_perm (front3 _ _ _ _ _) ?_; refine c_drop (x := iCells b7 _ _) ?_) | (refine c_perm (front4 _ _ _ _ _ _) ?_; refine c_drop (x := iCells b7 _ _) ?_)
       refine c_join ((k + 1), (p47.1.1), ((repT s e.1 e.2.1 e.2.2).1)) ?_ ?_ ?_ ?_
       ·show ((k + 1) ≤ l.length ∧ Rope.GoodO (plO (p47.1.1)) ∧ txO (p47.1.1) = ((repT s e.1 e.2.1 e.2.2).1) ∧ ((repT s e.1 e.2.1 e.2.2).1).length ≤ 2000) ∧ l.length - (k + 1) < l.length - k
        exact ⟨⟨by omega, p47.2.1, htp, by omega⟩, by omega⟩
       · exact ⟨rfl, rfl, rfl, rfl, trivial⟩
       ·show List.Perm _ ([iCells b5 26 [ptrO (p47.1.1)]])
        exact .refl _
       · (intro p hp; simp only [List.mem_cons, List.not_mem_nil, or_false] at hp; rcases hp with rfl | rfl <;> repeat constructor)
     ·skip
      refine l_alloc (by decide) inf_26 _ rfl (fun b7 => ?_)
      refine l_nil ?_
      refine m_next _ (by first | exact (List.Perm.refl _ : List.Perm _ ([] ++ _)) | exact (List.Perm.refl _ : List.Perm _ ([_] ++ _)) | exact (List.Perm.refl _ : List.Perm _ ([_, _] ++ _)) | exact (List.Perm.refl _ : List.Perm _ ([_, _, _] ++ _)) | exact (List.Perm.refl _ : List.Perm _ ([_, _, _, _] ++ _)) | exact (List.Perm.refl _ : List.Perm _ ([_, _, _, _, _] ++ _))) (by first | exact fun _ h => h | exact fun _ h => List.mem_cons_of_mem _ h | exact fun _ h => List.mem_cons_of_mem _ (List.mem_cons_of_mem _ h) | exact fun _ h => List.mem_cons_of_mem _ (List.mem_cons_of_mem _ (List.mem_cons_of_mem _ h)) | exact fun _ h => List.mem_cons_of_mem _ (List.mem_cons_of_mem _ (List.mem_cons_of_mem _ (List.mem_cons_of_mem _ h))) | exact fun _ h => List.mem_cons_of_mem _ (List.mem_cons_of_mem _ (List.mem_cons_of_mem _ (List.mem_cons_of_mem _ (List.mem_cons_of_mem _ h)))) | exact fun _ h => List.mem_cons_of_mem _ (List.mem_cons_of_mem _ (List.mem_cons_of_mem _ (List.mem_cons_of_mem _ (List.mem_cons_of_mem _ (List.mem_cons_of_mem _ h))))) | exact fun _ h => List.mem_cons_of_mem _ (List.mem_cons_of_mem _ (List.mem_cons_of_mem _ (List.mem_cons_of_mem _ (List.mem_cons_of_mem _ (List.mem_cons_of_mem _ (List.mem_cons_of_mem _ h)))))) | exact fun _ h => List.mem_cons_of_mem _ (List.mem_cons_of_mem _ (List.mem_cons_of_mem _ (List.mem_cons_of_mem _ (List.mem_cons_of_mem _ (List.mem_cons_of_mem _ (List.mem_cons_of_mem _ (List.mem_cons_of_mem _ h)))))))) ?_
      refine m_run 5 rfl (by kernel_rfl) ?_
      refine l_callf [liesO (t)] (X := RP (t) (e.1) (e.2.1) (e.2.2)) (fun p => .tuple #[.agg #[ptrO p.1.1], .int .i64 p.1.2]) (fun p => [liesO p.1.1]) (by decide) call_15 rfl (by intro p hp; simp only [List.mem_cons, List.not_mem_nil, or_false] at hp; rcases hp with rfl <;> repeat constructor) (fun w hs => replace_ok (t) (e.1) (e.2.1) (e.2.2) (hI.2.1) (by omega) (by omega) _ w hs) (fun p47 => ?_)
      refine l_nil ?_
      refine m_next _ (by first | exact (List.Perm.refl _ : List.Perm _ ([] ++ _)) | exact (List.Perm.refl _ : List.Perm _ ([_] ++ _)) | exact (List.Perm.refl _ : List.Perm _ ([_, _] ++ _)) | exact (List.Perm.refl _ : List.Perm _ ([_, _, _] ++ _)) | exact (List.Perm.refl _ : List.Perm _ ([_, _, _, _] ++ _)) | exact (List.Perm.refl _ : List.Perm _ ([_, _, _, _, _] ++ _))) (by first | exact fun _ h => h | exact fun _ h => List.mem_cons_of_mem _ h | exact fun _ h => List.mem_cons_of_mem _ (List.mem_cons_of_mem _ h) | exact fun _ h => List.mem_cons_of_mem _ (List.mem_cons_of_mem _ (List.mem_cons_of_mem _ h)) | exact fun _ h => List.mem_cons_of_mem _ (List.mem_cons_of_mem _ (List.mem_cons_of_mem _ (List.mem_cons_of_mem _ h))) | exact fun _ h => List.mem_cons_of_mem _ (List.mem_cons_of_mem _ (List.mem_cons_of_mem _ (List.mem_cons_of_mem _ (List.mem_cons_of_mem _ h)))) | exact fun _ h => List.mem_cons_of_mem _ (List.mem_cons_of_mem _ (List.mem_cons_of_mem _ (List.mem_cons_of_mem _ (List.mem_cons_of_mem _ (List.mem_cons_of_mem _ h))))) | exact fun _ h => List.mem_cons_of_mem _ (List.mem_cons_of_mem _ (List.mem_cons_of_mem _ (List.mem_cons_of_mem _ (List.mem_cons_of_mem _ (List.mem_cons_of_mem _ (List.mem_cons_of_mem _ h)))))) | exact fun _ h => List.mem_cons_of_mem _ (List.mem_cons_of_mem _ (List.mem_cons_of_mem _ (List.mem_cons_of_mem _ (List.mem_cons_of_mem _ (List.mem_cons_of_mem _ (List.mem_cons_of_mem _ (List.mem_cons_of_mem _ h)))))))) ?_
      refine m_takep 6 rfl (by kernel_rfl) (by decide) (p_move rfl) ?_
      refine m_takep 7 rfl (by kernel_rfl) (by decide) (p_extract rfl rfl) ?_
      refine m_takep 8 rfl (by kernel_rfl) (by decide) (p_extract rfl rfl) ?_
      refine m_run 10 rfl (by kernel_rfl) ?_
      first | (refine l_storew inf_26 rfl rfl rfl rfl rfl ?_) | (refine l_perm (front1 _ _ _) ?_; refine l_storew inf_26 rfl rfl rfl rfl rfl ?_) | (refine l_perm (front2 _ _ _ _) ?_; refine l_storew inf_26 rfl rfl rfl rfl rfl ?_) | (refine l_perm (front3 _ _ _ _ _) ?_; refine l_storew inf_26 rfl rfl rfl rfl rfl ?_) | (refine l_perm (front4 _ _ _ _ _ _) ?_; refine l_storew inf_26 rfl rfl rfl rfl rfl ?_) | (refine l_storea inf_26 rfl rfl rfl rfl (by decide) ?_) | (refine l_perm (front1 _ _ _) ?_; refine l_storea inf_26 rfl rfl rfl rfl (by decide) ?_) | (refine l_perm (front2 _ _ _ _) ?_; refine l_storea inf_26 rfl rfl rfl rfl (by decide) ?_)
      refine l_nil ?_
      refine m_next _ (by first | exact (List.Perm.refl _ : List.Perm _ ([] ++ _)) | exact (List.Perm.refl _ : List.Perm _ ([_] ++ _)) | exact (List.Perm.refl _ : List.Perm _ ([_, _] ++ _)) | exact (List.Perm.refl _ : List.Perm _ ([_, _, _] ++ _)) | exact (List.Perm.refl _ : List.Perm _ ([_, _, _, _] ++ _)) | exact (List.Perm.refl _ : List.Perm _ ([_, _, _, _, _] ++ _))) (by first | exact fun _ h => h | exact fun _ h => List.mem_cons_of_mem _ h | exact fun _ h => List.mem_cons_of_mem _ (List.mem_cons_of_mem _ h) | exact fun _ h => List.mem_cons_of_mem _ (List.mem_cons_of_mem _ (List.mem_cons_of_mem _ h)) | exact fun _ h => List.mem_cons_of_mem _ (List.mem_cons_of_mem _ (List.mem_cons_of_mem _ (List.mem_cons_of_mem _ h))) | exact fun _ h => List.mem_cons_of_mem _ (List.mem_cons_of_mem _ (List.mem_cons_of_mem _ (List.mem_cons_of_mem _ (List.mem_cons_of_mem _ h)))) | exact fun _ h => List.mem_cons_of_mem _ (List.mem_cons_of_mem _ (List.mem_cons_of_mem _ (List.mem_cons_of_mem _ (List.mem_cons_of_mem _ (List.mem_cons_of_mem _ h))))) | exact fun _ h => List.mem_cons_of_mem _ (List.mem_cons_of_mem _ (List.mem_cons_of_mem _ (List.mem_cons_of_mem _ (List.mem_cons_of_mem _ (List.mem_cons_of_mem _ (List.mem_cons_of_mem _ h)))))) | exact fun _ h => List.mem_cons_of_mem _ (List.mem_cons_of_mem _ (List.mem_cons_of_mem _ (List.mem_cons_of_mem _ (List.mem_cons_of_mem _ (List.mem_cons_of_mem _ (List.mem_cons_of_mem _ (List.mem_cons_of_mem _ h)))))))) ?_
      refine m_takep 11 rfl (by kernel_rfl) (by decide) (p_assign rfl) ?_
      refine m_done (by kernel_rfl) ?_
      refine c_seq ?_
      refine c_reg ?_
      refine l_q (by decide) (p_move rfl).q ?_
      refine l_q (by decide) (p_move rfl).q ?_
      refine l_q (by decide) (p_move rfl).q ?_
      first | refine l_q (by decide) (r_index Try.underlying51 inf_32 rfl rfl rfl (by first | exact .fact (by repeat constructor) | exact .own (by repeat constructor) (by decide) (fun _ => rfl)) rfl (by omega)).q ?_ | refine l_q (by decide) (r_index Try.underlying51 inf_32 rfl rfl rfl (by first | exact .fact (by repeat constructor) | exact .own (by repeat constructor) (by decide) (fun _ => rfl)) rfl (by decide)).q ?_ | refine l_q (by decide) (p_indexo Try.underlying51 inf_32 rfl rfl rfl (by omega)).q ?_
      have htp : txO p47.1.1 = (repT s e.1 e.2.1 e.2.2).1 := p47.2.2.1.trans (by rw [hI.2.2.1])
      have hep : p47.1.2 = (repT s e.1 e.2.1 e.2.2).2 := p47.2.2.2.trans (by rw [hI.2.2.1])
      first | refine l_q (by decide) (r_loada Try.underlying32 rfl inf_32 rfl (by first | exact .fact (by repeat constructor) | exact .own (by repeat constructor) (by decide) (fun _ => rfl)) (by assumption)).q ?_ | refine l_q (by decide) (r_loadow Try.underlying32 rfl inf_32 rfl (by repeat constructor) (by rfl)).q ?_ | refine l_q (by decide) (r_loadoa Try.underlying32 rfl inf_32 rfl (by repeat constructor) (by rfl) (fun j u h => h)).q ?_
      refine l_q (by decide) (q_call call_16 rfl (fun w hs => refrep_ok s (by omega) e.1 e.2.1 e.2.2 (by omega) w)) ?_
      refine l_q (by decide) (p_move rfl).q ?_
      refine l_q (by decide) (p_extract rfl rfl).q ?_
      refine l_q (by decide) (p_extract rfl rfl).q ?_
      refine l_q (by decide) (p_assign rfl).q ?_
      refine l_q (by decide) (p_assign rfl).q ?_
      refine l_nil ?_
      refine c_seq ?_
      refine c_seq ?_
      refine c_reg ?_
      refine l_q (by decide) (p_move rfl).q ?_
      refine l_q (by decide) (p_move rfl).q ?_
      first | refine l_q (by decide) (((p_neq rfl rfl rfl rfl)).to (u := .bool false) (by rw [decide_eq_false (fun h => h hep)])).q ?_ | refine l_q (by decide) (((p_neqi rfl rfl)).to (u := .bool false) (by rw [decide_eq_false (fun h => h hep)])).q ?_
      refine l_nil ?_
      refine c_false rfl ?_
      refine c_skip ?_
      refine c_seq ?_
      refine c_seq ?_
      refine c_reg ?_
      refine l_q (by decide) (p_move rfl).q ?_
      first | refine l_q (by decide) (p_neq (j := 0) rfl rfl rfl rfl).q ?_ | refine l_q (by decide) (p_neqi rfl rfl).q ?_
      refine l_nil ?_
      first | refine c_dec rfl (fun h63 => ?_) (fun h63 => ?_) | refine c_cond rfl (fun h63 => ?_) (fun h63 => ?_)
      ·skip
       refine c_exit ?_
       refine c_here ?_
       refine c_reg ?_
       refine l_q (by decide) (p_move rfl).q ?_
       first | refine l_q (by decide) (p_add (j := 1) rfl rfl rfl rfl (by show _ ≤ (9223372036854775807 : Nat); omega)).q ?_ | refine l_q (by decide) (p_addi rfl rfl (by show (-9223372036854775808 : Int) ≤ _; omega) (by show _ ≤ ((9223372036854775807 : Nat) : Int); omega)).q ?_
       refine l_q (by decide) (p_assign rfl).q ?_
       refine l_nil ?_
       first | (refine c_drop (x := iCells b7 _ _) ?_) | (refine c_perm (front1 _ _ _) ?_; refine c_drop (x := iCells b7 _ _) ?_) | (refine c_perm (front2 _ _ _ _) ?_; refine c_drop (x := iCells b7 _ _) ?_) | (refine c_perm (front3 _ _ _ _ _) ?_; refine c_drop (x := iCells b7 _ _) ?_) | (refine c_perm (front4 _ _ _ _ _ _) ?_; refine c_drop (x := iCells b7 _ _) ?_)
       refine c_join ((k + 1), (t), (s)) ?_ ?_ ?_ ?_
       ·show ((k + 1) ≤ l.length ∧ Rope.GoodO (plO (t)) ∧ txO (t) = (s) ∧ (s).length ≤ 2000) ∧ l.length - (k + 1) < l.length - k
        exact ⟨⟨by omega, hI.2⟩, by omega⟩
       · exact ⟨rfl, rfl, rfl, rfl, trivial⟩
       ·show List.Perm _ ([iCells b5 26 [ptrO (t)]])
        exact .refl _
       · (intro p hp; simp only [List.mem_cons, List.not_mem_nil, or_false] at hp; rcases hp with rfl | rfl <;> repeat constructor)
      ·skip
       refine c_skip ?_
       refine c_seq ?_
       refine c_reg ?_
       first | refine l_q (by decide) (r_loada Try.underlying26 rfl inf_26 rfl (by first | exact .fact (by repeat constructor) | exact .own (by repeat constructor) (by decide) (fun _ => rfl)) (by assumption)).q ?_ | refine l_q (by decide) (r_loadow Try.underlying26 rfl inf_26 rfl (by repeat constructor) (by rfl)).q ?_ | refine l_q (by decide) (r_loadoa Try.underlying26 rfl inf_26 rfl (by repeat constructor) (by rfl) (fun j u h => h)).q ?_
       refine l_q (by decide) (p_move rfl).q ?_
       first | (refine l_storew inf_26 rfl rfl rfl rfl rfl ?_) | (refine l_perm (front1 _ _ _) ?_; refine l_storew inf_26 rfl rfl rfl rfl rfl ?_) | (refine l_perm (front2 _ _ _ _) ?_; refine l_storew inf_26 rfl rfl rfl rfl rfl ?_) | (refine l_perm (front3 _ _ _ _ _) ?_; refine l_storew inf_26 rfl rfl rfl rfl rfl ?_) | (refine l_perm (front4 _ _ _ _ _ _) ?_; refine l_storew inf_26 rfl rfl rfl rfl rfl ?_) | (refine l_storea inf_26 rfl rfl rfl rfl (by decide) ?_) | (refine l_perm (front1 _ _ _) ?_; refine l_storea inf_26 rfl rfl rfl rfl (by decide) ?_) | (refine l_perm (front2 _ _ _ _) ?_; refine l_storea inf_26 rfl rfl rfl rfl (by decide) ?_)
       refine l_q (by decide) (p_assign rfl).q ?_
       refine l_nil ?_
       refine c_seq ?_
       refine c_reg ?_
       first | refine l_q (by decide) (r_loada Try.underlying26 rfl inf_26 rfl (by first | exact .fact (by repeat constructor) | exact .own (by repeat constructor) (by decide) (fun _ => rfl)) (by assumption)).q ?_ | refine l_q (by decide) (r_loadow Try.underlying26 rfl inf_26 rfl (by repeat constructor) (by rfl)).q ?_ | refine l_q (by decide) (r_loadoa Try.underlying26 rfl inf_26 rfl (by repeat constructor) (by rfl) (fun j u h => h)).q ?_
       refine l_q (by decide) (p_move rfl).q ?_
       refine l_q (by decide) (q_call call_12 rfl (fun w hs => holds_ok (p47.1.1) ((repT s e.1 e.2.1 e.2.2).1) (p47.2.1) (htp) (by omega) w (hs.facts (liesO (p47.1.1)) (by repeat constructor)).1)) ?_
       refine l_q (by decide) (p_not rfl).q ?_
       refine l_nil ?_
       refine c_false rfl ?_
       refine c_skip ?_
       refine c_reg ?_
       refine l_q (by decide) (p_move rfl).q ?_
       first | refine l_q (by decide) (p_add (j := 1) rfl rfl rfl rfl (by show _ ≤ (9223372036854775807 : Nat); omega)).q ?_ | refine l_q (by decide) (p_addi rfl rfl (by show (-9223372036854775808 : Int) ≤ _; omega) (by show _ ≤ ((9223372036854775807 : Nat) : Int); omega)).q ?_
       refine l_q (by decide) (p_assign rfl).q ?_
       refine l_nil ?_
       first | (refine c_drop (x := iCells b7 _ _) ?_) | (refine c_perm (front1 _ _ _) ?_; refine c_drop (x := iCells b7 _ _) ?_) | (refine c_perm (front2 _ _ _ _) ?_; refine c_drop (x := iCells b7 _ _) ?_) | (refine c_perm (front3 _ _ _ _ _) ?_; refine c_drop (x := iCells b7 _ _) ?_) | (refine c_perm (front4 _ _ _ _ _ _) ?_; refine c_drop (x := iCells b7 _ _) ?_)
       refine c_join ((k + 1), (p47.1.1), ((repT s e.1 e.2.1 e.2.2).1)) ?_ ?_ ?_ ?_
       ·show ((k + 1) ≤ l.length ∧ Rope.GoodO (plO (p47.1.1)) ∧ txO (p47.1.1) = ((repT s e.1 e.2.1 e.2.2).1) ∧ ((repT s e.1 e.2.1 e.2.2).1).length ≤ 2000) ∧ l.length - (k + 1) < l.length - k
        exact ⟨⟨by omega, p47.2.1, htp, by omega⟩, by omega⟩
       · exact ⟨rfl, rfl, rfl, rfl, trivial⟩
       ·show List.Perm _ ([iCells b5 26 [ptrO (p47.1.1)]])
        exact .refl _
       · (intro p hp; simp only [List.mem_cons, List.not_mem_nil, or_false] at hp; rcases hp with rfl | rfl <;> repeat constructor)
   ·skip
    refine c_exit ?_
    refine c_here ?_
    refine c_seq ?_
    refine c_reg ?_
    first | refine l_q (by decide) (r_loada Try.underlying26 rfl inf_26 rfl (by first | exact .fact (by repeat constructor) | exact .own (by repeat constructor) (by decide) (fun _ => rfl)) (by assumption)).q ?_ | refine l_q (by decide) (r_loadow Try.underlying26 rfl inf_26 rfl (by repeat constructor) (by rfl)).q ?_ | refine l_q (by decide) (r_loadoa Try.underlying26 rfl inf_26 rfl (by repeat constructor) (by rfl) (fun j u h => h)).q ?_
    refine l_q (by decide) (q_call call_26 rfl (fun w hs => joined_ok t hI.2.1 (by omega) w (hs.facts (liesO (t)) (by repeat constructor)).1)) ?_
    refine l_q (by decide) (p_move rfl).q ?_
    refine l_q (by decide) (p_extract rfl rfl).q ?_
    refine l_q (by decide) (p_extract rfl rfl).q ?_
    refine l_q (by decide) (p_assign rfl).q ?_
    refine l_q (by decide) (((p_assign rfl)).to (u := .bool true) (rfl)).q ?_
    refine l_nil ?_
    refine c_seq ?_
    refine c_reg ?_
    refine l_q (by decide) (q_call call_11 rfl (fun w hs => awake_ok w)) ?_
    refine l_q (by decide) (p_move rfl).q ?_
    refine l_g (j := 1) rfl rfl (by decide) (p_move rfl).q ?_
    refine l_q (by decide) (p_pick rfl rfl).q ?_
    refine l_q (by decide) (p_move rfl).q ?_
    refine l_g (j := 4) rfl rfl (by decide) (p_move rfl).q ?_
    refine l_g (j := 4) rfl rfl (by decide) (p_move rfl).q ?_
    refine l_g (j := 4) rfl rfl (by decide) (((p_eqs rfl rfl)).to (u := .bool true) (by rw [decide_eq_true (hI.2.2.1.trans rfl)])).q ?_
    refine l_q (by decide) (p_pick rfl rfl).q ?_
    refine l_q (by decide) (p_assign rfl).q ?_
    refine l_nil ?_
    refine c_ret ?_
    refine c_ret1 rfl rfl (fun w hs => ?_)
    exact ⟨rfl, hs.ext⟩

theorem chunks_law (a b : List UInt8) (u : UInt8) (w : World) :
   Calls Try.prog 10 #[str a, str b, .int .u8 (u.toNat : Int)] w (Ret fun v w' => v = .bool true ∧ Ext [] w w') := by
 refine calls_fm (l := [str a, str b, .int .u8 (u.toNat : Int)]) Try.func10 rfl Try.ntmps10 (Nat.le_of_ble_eq_true rfl) (St.start w) ?_
 refine c_seq ?_
 refine c_reg ?_
 refine l_box (by decide) rfl _ rfl (fun b5 => ?_)
 refine l_q (show 6 < 100 by decide) (p_assign rfl).q ?_
 refine l_nil ?_
 refine c_seq ?_
 refine c_seq ?_
 refine c_reg ?_
 refine l_q (show 15 < 100 by decide) (p_move rfl).q ?_
 refine l_q (show 16 < 100 by decide) (p_len_str Try.underlying9 rfl).q ?_
 first | refine l_q (show 17 < 100 by decide) (p_gtr (j := 1000) rfl rfl rfl rfl).q ?_ | refine l_q (show 17 < 100 by decide) (p_gtri rfl rfl).q ?_
 refine l_q (show 18 < 100 by decide) (p_move rfl).q ?_
 first | refine l_splitd (t := 18) rfl (fun h18 => ?_) (fun h18 => ?_) | refine l_splitb (t := 18) rfl (fun h18 => ?_) (fun h18 => ?_)
 ·skip
  refine l_off (j := 3) rfl rfl (by first | (simp; done) | (simp [undef]; done)) (show 19 < 100 by decide) ?_
  refine l_off (j := 3) rfl rfl (by first | (simp; done) | (simp [undef]; done)) (show 20 < 100 by decide) ?_
  refine l_off (j := 3) rfl rfl (by first | (simp; done) | (simp [undef]; done)) (show 21 < 100 by decide) ?_
  refine l_q (show 22 < 100 by decide) (p_pick rfl rfl).q ?_
  refine l_nil ?_
  refine c_true rfl ?_
  refine c_seq ?_
  refine c_reg ?_
  refine l_q (show 23 < 100 by decide) (q_call call_11 rfl (fun w hs => awake_ok w)) ?_
  refine l_q (show 6 < 100 by decide) (p_assign rfl).q ?_
  refine l_nil ?_
  refine c_ret ?_
  first | refine c_retm1 rfl rfl (fun w hs => ?_) | refine c_retn1 rfl rfl (fun w hs => ?_)
  exact ⟨rfl, hs.ext⟩
 ·skip
  refine l_g (j := 3) rfl rfl (show 19 < 100 by decide) (p_move rfl).q ?_
  refine l_g (j := 3) rfl rfl (show 20 < 100 by decide) (p_len_str Try.underlying9 rfl).q ?_
  first | refine l_g (j := 3) rfl rfl (show 21 < 100 by decide) (p_gtr (j := 1000) rfl rfl rfl rfl).q ?_ | refine l_g (j := 3) rfl rfl (show 21 < 100 by decide) (p_gtri rfl rfl).q ?_
  refine l_q (show 22 < 100 by decide) (p_pick rfl rfl).q ?_
  refine l_nil ?_
  first | refine c_dec rfl (fun h22 => ?_) (fun h22 => ?_) | refine c_cond rfl (fun h22 => ?_) (fun h22 => ?_)
  ·skip
   refine c_seq ?_
   refine c_reg ?_
   refine l_q (show 23 < 100 by decide) (q_call call_11 rfl (fun w hs => awake_ok w)) ?_
   refine l_q (show 6 < 100 by decide) (p_assign rfl).q ?_
   refine l_nil ?_
   refine c_ret ?_
   first | refine c_retm1 rfl rfl (fun w hs => ?_) | refine c_retn1 rfl rfl (fun w hs => ?_)
   exact ⟨rfl, hs.ext⟩
  ·skip
   refine c_skip ?_
   refine c_seq ?_
   refine c_reg ?_
   refine l_q (show 24 < 100 by decide) (p_move rfl).q ?_
   refine l_callf [] (X := TO (Rope.build (a))) (fun x => .agg #[ptrO x.1]) (fun x => [liesO x.1]) (by decide) call_13 rfl (fun _ h => by cases h) (fun w hs => new_ok (a) (by omega) _ w hs) (fun x25 => ?_)
   refine l_q (show 26 < 100 by decide) (p_move rfl).q ?_
   refine l_callf [] (X := TO (Rope.build (b))) (fun x => .agg #[ptrO x.1]) (fun x => [liesO x.1]) (by decide) call_13 rfl (fun _ h => by cases h) (fun w hs => new_ok (b) (by omega) _ w hs) (fun x27 => ?_)
   refine l_callf [liesO (x25.1), liesO (x27.1)] (X := TO (Rope.join (plO (x25.1)) (plO (x27.1)))) (fun x => .agg #[ptrO x.1]) (fun x => [liesO x.1]) (by decide) call_14 rfl (by intro p hp; simp only [List.mem_cons, List.not_mem_nil, or_false] at hp; rcases hp with rfl | rfl <;> repeat constructor) (fun w hs => concat_ok (x25.1) (x27.1) (new_good x25.2) (new_good x27.2) (by have := tx_size (new_text x25.2); have := tx_size (new_text x27.2); omega) _ w hs) (fun x28 => ?_)
   refine l_alloc (by decide) inf_26 _ rfl (fun b7 => ?_)
   first | (refine l_storew inf_26 rfl rfl rfl rfl rfl ?_) | (refine l_perm (front1 _ _ _) ?_; refine l_storew inf_26 rfl rfl rfl rfl rfl ?_) | (refine l_perm (front2 _ _ _ _) ?_; refine l_storew inf_26 rfl rfl rfl rfl rfl ?_) | (refine l_perm (front3 _ _ _ _ _) ?_; refine l_storew inf_26 rfl rfl rfl rfl rfl ?_) | (refine l_perm (front4 _ _ _ _ _ _) ?_; refine l_storew inf_26 rfl rfl rfl rfl rfl ?_) | (refine l_storea inf_26 rfl rfl rfl rfl (by decide) ?_) | (refine l_perm (front1 _ _ _) ?_; refine l_storea inf_26 rfl rfl rfl rfl (by decide) ?_) | (refine l_perm (front2 _ _ _ _) ?_; refine l_storea inf_26 rfl rfl rfl rfl (by decide) ?_)
   refine l_nil ?_
   refine c_seq ?_
   refine c_reg ?_
   have ht28 := cat_text x28.2 (new_text x25.2) (new_text x27.2)
   have hz28 := tx_size ht28
   simp only [List.length_append] at hz28
   have hg := joined_good x28.2 (new_good x25.2) (new_good x27.2)
   obtain ⟨ps, hps⟩ := pcs_ex hg
   have hcn := cat_len ps
   have hct : (cat ps).length = szO x28.1 := congrArg List.length (cat_tx hps)
   first | refine l_q (show 30 < 100 by decide) (r_loada Try.underlying26 rfl inf_26 rfl (by first | exact .fact (by repeat constructor) | exact .own (by repeat constructor) (by decide) (fun _ => rfl)) (by assumption)).q ?_ | refine l_q (show 30 < 100 by decide) (r_loadow Try.underlying26 rfl inf_26 rfl (by repeat constructor) (by rfl)).q ?_ | refine l_q (show 30 < 100 by decide) (r_loadoa Try.underlying26 rfl inf_26 rfl (by repeat constructor) (by rfl) (fun j u h => h)).q ?_
   refine l_q (show 31 < 100 by decide) (q_call call_26 rfl (fun w hs => joined_ok x28.1 hg (by omega) w (hs.facts (liesO (x28.1)) (by repeat constructor)).1)) ?_
   refine l_q (show 29 < 100 by decide) (p_move rfl).q ?_
   refine l_q (show 32 < 100 by decide) (p_extract rfl rfl).q ?_
   refine l_q (show 33 < 100 by decide) (p_extract rfl rfl).q ?_
   refine l_q (show 8 < 100 by decide) (p_assign rfl).q ?_
   refine l_q (show 9 < 100 by decide) (p_assign rfl).q ?_
   refine l_nil ?_
   refine c_seq ?_
   refine c_reg ?_
   first | refine l_q (show 35 < 100 by decide) (r_loada Try.underlying26 rfl inf_26 rfl (by first | exact .fact (by repeat constructor) | exact .own (by repeat constructor) (by decide) (fun _ => rfl)) (by assumption)).q ?_ | refine l_q (show 35 < 100 by decide) (r_loadow Try.underlying26 rfl inf_26 rfl (by repeat constructor) (by rfl)).q ?_ | refine l_q (show 35 < 100 by decide) (r_loadoa Try.underlying26 rfl inf_26 rfl (by repeat constructor) (by rfl) (fun j u h => h)).q ?_
   refine l_q (show 36 < 100 by decide) (q_call call_26 rfl (fun w hs => joined_ok x28.1 hg (by omega) w (hs.facts (liesO (x28.1)) (by repeat constructor)).1)) ?_
   refine l_q (show 34 < 100 by decide) (p_move rfl).q ?_
   refine l_q (show 37 < 100 by decide) (p_extract rfl rfl).q ?_
   refine l_q (show 38 < 100 by decide) (p_extract rfl rfl).q ?_
   refine l_q (show 10 < 100 by decide) (p_assign rfl).q ?_
   refine l_q (show 11 < 100 by decide) (p_assign rfl).q ?_
   refine l_nil ?_
   refine c_seq ?_
   refine c_seq ?_
   refine c_reg ?_
   refine l_q (show 39 < 100 by decide) (p_move rfl).q ?_
   first | refine l_q (show 40 < 100 by decide) (((p_notd rfl)).to (u := .bool false) (rfl)).q ?_ | refine l_q (show 40 < 100 by decide) (((p_not rfl)).to (u := .bool false) (rfl)).q ?_
   refine l_q (show 41 < 100 by decide) (p_move rfl).q ?_
   refine l_g (j := 2) rfl rfl (show 42 < 100 by decide) (p_move rfl).q ?_
   first | refine l_g (j := 2) rfl rfl (show 43 < 100 by decide) (((p_notd rfl)).to (u := .bool false) (rfl)).q ?_ | refine l_g (j := 2) rfl rfl (show 43 < 100 by decide) (((p_not rfl)).to (u := .bool false) (rfl)).q ?_
   refine l_q (show 44 < 100 by decide) (p_pick rfl rfl).q ?_
   refine l_q (show 45 < 100 by decide) (p_move rfl).q ?_
   refine l_g (j := 6) rfl rfl (show 46 < 100 by decide) (p_move rfl).q ?_
   refine l_g (j := 6) rfl rfl (show 47 < 100 by decide) (p_move rfl).q ?_
   refine l_g (j := 6) rfl rfl (show 48 < 100 by decide) (p_move rfl).q ?_
   first | refine l_g (j := 6) rfl rfl (show 49 < 100 by decide) (p_cat rfl rfl (by omega)).q ?_ | refine l_g (j := 6) rfl rfl (show 49 < 100 by decide) (p_cat rfl rfl (by simp; omega)).q ?_
   refine l_g (j := 6) rfl rfl (show 50 < 100 by decide) (((p_neqs rfl rfl)).to (u := .bool false) (by rw [decide_eq_false (fun h => h ht28)])).q ?_
   refine l_q (show 51 < 100 by decide) (p_pick rfl rfl).q ?_
   refine l_q (show 52 < 100 by decide) (p_move rfl).q ?_
   refine l_g (j := 13) rfl rfl (show 53 < 100 by decide) (p_move rfl).q ?_
   refine l_g (j := 13) rfl rfl (show 54 < 100 by decide) (p_move rfl).q ?_
   refine l_g (j := 13) rfl rfl (show 55 < 100 by decide) (p_move rfl).q ?_
   first | refine l_g (j := 13) rfl rfl (show 56 < 100 by decide) (p_cat rfl rfl (by omega)).q ?_ | refine l_g (j := 13) rfl rfl (show 56 < 100 by decide) (p_cat rfl rfl (by simp; omega)).q ?_
   refine l_g (j := 13) rfl rfl (show 57 < 100 by decide) (((p_neqs rfl rfl)).to (u := .bool false) (by rw [decide_eq_false (fun h => h ht28)])).q ?_
   refine l_q (show 58 < 100 by decide) (p_pick rfl rfl).q ?_
   refine l_nil ?_
   refine c_false rfl ?_
   refine c_skip ?_
   refine c_seq ?_
   refine c_reg ?_
   refine l_alloc (by decide) inf_9 _ rfl (fun b12 => ?_)
   refine l_alloc (by decide) inf_3 _ rfl (fun b13 => ?_)
   first | (refine l_store inf_9 rfl rfl rfl rfl (by first | decide | exact Nat.le_of_ble_eq_true rfl | (simp; done) | omega | (simp only [Nat.mul_one]; assumption)) ?_) | (refine l_perm (front1 _ _ _) ?_; refine l_store inf_9 rfl rfl rfl rfl (by first | decide | exact Nat.le_of_ble_eq_true rfl | (simp; done) | omega | (simp only [Nat.mul_one]; assumption)) ?_) | (refine l_perm (front2 _ _ _ _) ?_; refine l_store inf_9 rfl rfl rfl rfl (by first | decide | exact Nat.le_of_ble_eq_true rfl | (simp; done) | omega | (simp only [Nat.mul_one]; assumption)) ?_) | (refine l_perm (front3 _ _ _ _ _) ?_; refine l_store inf_9 rfl rfl rfl rfl (by first | decide | exact Nat.le_of_ble_eq_true rfl | (simp; done) | omega | (simp only [Nat.mul_one]; assumption)) ?_) | (refine l_perm (front4 _ _ _ _ _ _) ?_; refine l_store inf_9 rfl rfl rfl rfl (by first | decide | exact Nat.le_of_ble_eq_true rfl | (simp; done) | omega | (simp only [Nat.mul_one]; assumption)) ?_)
   first | (refine l_store inf_3 rfl rfl rfl rfl (by first | decide | exact Nat.le_of_ble_eq_true rfl | (simp; done) | omega | (simp only [Nat.mul_one]; assumption)) ?_) | (refine l_perm (front1 _ _ _) ?_; refine l_store inf_3 rfl rfl rfl rfl (by first | decide | exact Nat.le_of_ble_eq_true rfl | (simp; done) | omega | (simp only [Nat.mul_one]; assumption)) ?_) | (refine l_perm (front2 _ _ _ _) ?_; refine l_store inf_3 rfl rfl rfl rfl (by first | decide | exact Nat.le_of_ble_eq_true rfl | (simp; done) | omega | (simp only [Nat.mul_one]; assumption)) ?_) | (refine l_perm (front3 _ _ _ _ _) ?_; refine l_store inf_3 rfl rfl rfl rfl (by first | decide | exact Nat.le_of_ble_eq_true rfl | (simp; done) | omega | (simp only [Nat.mul_one]; assumption)) ?_) | (refine l_perm (front4 _ _ _ _ _ _) ?_; refine l_store inf_3 rfl rfl rfl rfl (by first | decide | exact Nat.le_of_ble_eq_true rfl | (simp; done) | omega | (simp only [Nat.mul_one]; assumption)) ?_)
   refine l_nil ?_
   refine c_seq ?_
   refine c_seq ?_
   refine c_reg ?_
   first | refine l_q (show 59 < 100 by decide) (r_loada Try.underlying26 rfl inf_26 rfl (by first | exact .fact (by repeat constructor) | exact .own (by repeat constructor) (by decide) (fun _ => rfl)) (by assumption)).q ?_ | refine l_q (show 59 < 100 by decide) (r_loadow Try.underlying26 rfl inf_26 rfl (by repeat constructor) (by rfl)).q ?_ | refine l_q (show 59 < 100 by decide) (r_loadoa Try.underlying26 rfl inf_26 rfl (by repeat constructor) (by rfl) (fun j u h => h)).q ?_
   refine l_callf [liesO x28.1] (X := Nat) itv (fun b => [boxT b x28.1]) (by decide) call_27 rfl (by intro p hp; simp only [List.mem_cons, List.not_mem_nil, or_false] at hp; rcases hp with rfl <;> repeat constructor) (fun w hs => chunks_ok x28.1 _ w hs) (fun bx => ?_)
   refine l_nil ?_
   refine c_block ?_
   refine c_rangex (α := Pc) 0 encs (boxT bx x28.1) (fun xs => xs = ps) (fun p => ∃ q, p ++ q = ps) ps.length (fun pre => [iCells b13 3 [.int .i64 ((pre.length : Nat) : Int)], iCells b12 9 [str (cat pre)], iCells b7 26 [ptrO x28.1], iCells b5 5 [.int .u8 (u.toNat : Int)]]) (fun x => [(5, .pointer (some ⟨b5, 0, none⟩)), (8, str (txO x28.1)), (12, .pointer (some ⟨b12, 0, none⟩)), (13, .pointer (some ⟨b13, 0, none⟩)), (14, str x.1), (60, itv bx)]) (fun pre x => pre.length = u.toNat % 8) rfl call_32 (by repeat constructor) (fun w h => chunks_seq bx x28.1 ps hps w h) (fun x => rfl) (by decide) rfl (fun _ _ h => h) ?_ ?_ ?_ ?_
   ·intro l pre x w1
    rw [show (#[61].zip (encs x)).toList = [(61, str x.1)] by simp [encs]]
    refine c_reg ?_
    refine l_q (show 14 < 100 by decide) (p_assign rfl).q ?_
    refine l_nil ?_
    refine c_join () trivial ?_ ?_ (fun _ h => h)
    · exact ⟨rfl, rfl, rfl, rfl, rfl, rfl, trivial⟩
    ·skip
     exact List.Perm.refl _
   ·intro l pre x w1 hlen
    have hcl := cat_len pre
    have hxl := x.2
    have hu8 := UInt8.toNat_lt u
    refine c_block ?_
    refine c_seq ?_
    refine c_seq ?_
    refine c_reg ?_
    first | refine l_q (show 62 < 100 by decide) (r_loado Try.underlying3 rfl rfl (by repeat constructor) (by rfl)).q ?_ | refine l_q (show 62 < 100 by decide) (r_load1 Try.underlying3 rfl rfl (by first | exact .fact (by repeat constructor) | exact .own (by repeat constructor) (by decide) (fun _ => rfl)) (by first | assumption | rfl) (by rfl)).q ?_ | refine l_q (show 62 < 100 by decide) (r_loadf Try.underlying3 rfl rfl (by first | exact .fact (by repeat constructor) | exact .own (by repeat constructor) (by decide) (fun _ => rfl)) (by assumption) (by rfl)).q ?_
    first | refine l_q (show 63 < 100 by decide) (r_loado Try.underlying5 rfl rfl (by repeat constructor) (by rfl)).q ?_ | refine l_q (show 63 < 100 by decide) (r_load1 Try.underlying5 rfl rfl (by first | exact .fact (by repeat constructor) | exact .own (by repeat constructor) (by decide) (fun _ => rfl)) (by first | assumption | rfl) (by rfl)).q ?_ | refine l_q (show 63 < 100 by decide) (r_loadf Try.underlying5 rfl rfl (by first | exact .fact (by repeat constructor) | exact .own (by repeat constructor) (by decide) (fun _ => rfl)) (by assumption) (by rfl)).q ?_
    refine l_q (show 64 < 100 by decide) (p_rem (j := 8) rfl rfl rfl rfl (by omega)).q ?_
    refine l_q (show 65 < 100 by decide) (p_convn Try.underlying5 Try.underlying3 rfl rfl (by show _ ≤ (9223372036854775807 : Nat); omega)).q ?_
    first | refine l_q (show 66 < 100 by decide) (p_eql rfl rfl rfl rfl).q ?_ | refine l_q (show 66 < 100 by decide) (p_eqli rfl rfl).q ?_
    refine l_nil ?_
    first | refine c_dec rfl (fun h66 => ?_) (fun h66 => ?_) | refine c_cond rfl (fun h66 => ?_) (fun h66 => ?_)
    ·skip
     refine c_exit ?_
     refine c_out (by decide) ?_
     refine c_ex ?_
     refine c_join () (h66) trivial ?_ (fun _ h => h)
     exact List.Perm.refl _
    ·skip
     refine c_skip ?_
     refine c_seq ?_
     refine c_reg ?_
     first | refine l_q (show 67 < 100 by decide) (r_loado Try.underlying9 rfl rfl (by repeat constructor) (by rfl)).q ?_ | refine l_q (show 67 < 100 by decide) (r_load1 Try.underlying9 rfl rfl (by first | exact .fact (by repeat constructor) | exact .own (by repeat constructor) (by decide) (fun _ => rfl)) (by first | assumption | rfl) (by rfl)).q ?_ | refine l_q (show 67 < 100 by decide) (r_loadf Try.underlying9 rfl rfl (by first | exact .fact (by repeat constructor) | exact .own (by repeat constructor) (by decide) (fun _ => rfl)) (by assumption) (by rfl)).q ?_
     refine l_q (show 68 < 100 by decide) (p_move rfl).q ?_
     first | refine l_q (show 69 < 100 by decide) (p_cat rfl rfl (by omega)).q ?_ | refine l_q (show 69 < 100 by decide) (p_cat rfl rfl (by simp; omega)).q ?_
     first | (refine l_store inf_9 rfl rfl rfl rfl (by first | decide | exact Nat.le_of_ble_eq_true rfl | (simp; done) | omega | (simp only [Nat.mul_one]; assumption)) ?_) | (refine l_perm (front1 _ _ _) ?_; refine l_store inf_9 rfl rfl rfl rfl (by first | decide | exact Nat.le_of_ble_eq_true rfl | (simp; done) | omega | (simp only [Nat.mul_one]; assumption)) ?_) | (refine l_perm (front2 _ _ _ _) ?_; refine l_store inf_9 rfl rfl rfl rfl (by first | decide | exact Nat.le_of_ble_eq_true rfl | (simp; done) | omega | (simp only [Nat.mul_one]; assumption)) ?_) | (refine l_perm (front3 _ _ _ _ _) ?_; refine l_store inf_9 rfl rfl rfl rfl (by first | decide | exact Nat.le_of_ble_eq_true rfl | (simp; done) | omega | (simp only [Nat.mul_one]; assumption)) ?_) | (refine l_perm (front4 _ _ _ _ _ _) ?_; refine l_store inf_9 rfl rfl rfl rfl (by first | decide | exact Nat.le_of_ble_eq_true rfl | (simp; done) | omega | (simp only [Nat.mul_one]; assumption)) ?_)
     refine l_nil ?_
     refine c_reg ?_
     first | refine l_q (show 70 < 100 by decide) (r_loado Try.underlying3 rfl rfl (by repeat constructor) (by rfl)).q ?_ | refine l_q (show 70 < 100 by decide) (r_load1 Try.underlying3 rfl rfl (by first | exact .fact (by repeat constructor) | exact .own (by repeat constructor) (by decide) (fun _ => rfl)) (by first | assumption | rfl) (by rfl)).q ?_ | refine l_q (show 70 < 100 by decide) (r_loadf Try.underlying3 rfl rfl (by first | exact .fact (by repeat constructor) | exact .own (by repeat constructor) (by decide) (fun _ => rfl)) (by assumption) (by rfl)).q ?_
     first | refine l_q (show 71 < 100 by decide) (p_add (j := 1) rfl rfl rfl rfl (by show _ ≤ (9223372036854775807 : Nat); omega)).q ?_ | refine l_q (show 71 < 100 by decide) (p_addi rfl rfl (by show (-9223372036854775808 : Int) ≤ _; omega) (by show _ ≤ ((9223372036854775807 : Nat) : Int); omega)).q ?_
     first | (refine l_store inf_3 rfl rfl rfl rfl (by first | decide | exact Nat.le_of_ble_eq_true rfl | (simp; done) | omega | (simp only [Nat.mul_one]; assumption)) ?_) | (refine l_perm (front1 _ _ _) ?_; refine l_store inf_3 rfl rfl rfl rfl (by first | decide | exact Nat.le_of_ble_eq_true rfl | (simp; done) | omega | (simp only [Nat.mul_one]; assumption)) ?_) | (refine l_perm (front2 _ _ _ _) ?_; refine l_store inf_3 rfl rfl rfl rfl (by first | decide | exact Nat.le_of_ble_eq_true rfl | (simp; done) | omega | (simp only [Nat.mul_one]; assumption)) ?_) | (refine l_perm (front3 _ _ _ _ _) ?_; refine l_store inf_3 rfl rfl rfl rfl (by first | decide | exact Nat.le_of_ble_eq_true rfl | (simp; done) | omega | (simp only [Nat.mul_one]; assumption)) ?_) | (refine l_perm (front4 _ _ _ _ _ _) ?_; refine l_store inf_3 rfl rfl rfl rfl (by first | decide | exact Nat.le_of_ble_eq_true rfl | (simp; done) | omega | (simp only [Nat.mul_one]; assumption)) ?_)
     refine l_nil ?_
     refine c_join () trivial ?_ ?_ (fun _ h => h)
     · exact trivial
     ·skip
      rw [cat_snoc, List.length_append, List.length_singleton]
      repeat (first | exact List.Perm.refl _ | refine List.Perm.cons _ ?_ | refine (front1 _ _ _).trans (List.Perm.cons _ ?_) | refine (front2 _ _ _ _).trans (List.Perm.cons _ ?_) | refine (front3 _ _ _ _ _).trans (List.Perm.cons _ ?_) | refine (front4 _ _ _ _ _ _).trans (List.Perm.cons _ ?_))
   ·intro D xs hxs
    subst hxs
    obtain ⟨pre, hpre⟩ : ∃ pre, pre = xs := ⟨_, rfl⟩
    rw [← hpre] at hps ⊢
    have hrest : cat pre ++ [] = txO x28.1 := by rw [List.append_nil]; exact cat_tx hps
    have hor : pre.length = u.toNat % 8 ∨ cat pre = txO x28.1 := .inr (cat_tx hps)
    have hle2 : (cat pre).length ≤ (txO x28.1).length := by rw [← hrest, List.length_append]; exact Nat.le_add_right _ _
    have hu8 := UInt8.toNat_lt u
    refine c_seq ?_
    refine c_draw mixed (by decide +kernel) ?_
    refine q_q (show 72 < 100 by decide) (q_call call_11 rfl (fun w hs => awake_ok w)) ?_
    refine q_q (show 73 < 100 by decide) (p_move rfl).q ?_
    first | refine q_g (j := 1) rfl rfl (show 74 < 100 by decide) (r_loado Try.underlying9 rfl rfl (by repeat constructor) (by rfl)).q ?_ | refine q_g (j := 1) rfl rfl (show 74 < 100 by decide) (r_load1 Try.underlying9 rfl rfl (by first | exact .fact (by repeat constructor) | exact .own (by repeat constructor) (by decide) (fun _ => rfl)) (by first | assumption | rfl) (by rfl)).q ?_ | refine q_g (j := 1) rfl rfl (show 74 < 100 by decide) (r_loadf Try.underlying9 rfl rfl (by first | exact .fact (by repeat constructor) | exact .own (by repeat constructor) (by decide) (fun _ => rfl)) (by assumption) (by rfl)).q ?_
    refine q_g (j := 1) rfl rfl (show 75 < 100 by decide) (p_len_str Try.underlying9 rfl).q ?_
    refine q_g (j := 1) rfl rfl (show 76 < 100 by decide) (p_move rfl).q ?_
    refine q_g (j := 1) rfl rfl (show 77 < 100 by decide) (p_len_str Try.underlying9 rfl).q ?_
    first | refine q_g (j := 1) rfl rfl (show 78 < 100 by decide) (((p_leq rfl rfl rfl rfl)).to (u := .bool true) (by rw [decide_eq_true (by rw [← hrest, List.length_append]; exact Nat.le_add_right _ _)])).q ?_ | refine q_g (j := 1) rfl rfl (show 78 < 100 by decide) (((p_leqi rfl rfl)).to (u := .bool true) (by rw [decide_eq_true (by rw [← hrest, List.length_append]; exact Nat.le_add_right _ _)])).q ?_
    refine q_q (show 79 < 100 by decide) (p_pick rfl rfl).q ?_
    refine q_q (show 80 < 100 by decide) (p_move rfl).q ?_
    refine q_g (j := 8) rfl rfl (show 81 < 100 by decide) (p_move rfl).q ?_
    first | refine q_g (j := 8) rfl rfl (show 82 < 100 by decide) (r_loado Try.underlying9 rfl rfl (by repeat constructor) (by rfl)).q ?_ | refine q_g (j := 8) rfl rfl (show 82 < 100 by decide) (r_load1 Try.underlying9 rfl rfl (by first | exact .fact (by repeat constructor) | exact .own (by repeat constructor) (by decide) (fun _ => rfl)) (by first | assumption | rfl) (by rfl)).q ?_ | refine q_g (j := 8) rfl rfl (show 82 < 100 by decide) (r_loadf Try.underlying9 rfl rfl (by first | exact .fact (by repeat constructor) | exact .own (by repeat constructor) (by decide) (fun _ => rfl)) (by assumption) (by rfl)).q ?_
    refine q_g (j := 8) rfl rfl (show 83 < 100 by decide) (p_len_str Try.underlying9 rfl).q ?_
    first | refine q_g (j := 8) rfl rfl (show 84 < 100 by decide) (((p_slice_h Try.underlying9 rfl rfl rfl (by omega))).to (u := str (cat pre)) (by rw [← hrest, List.take_left])).q ?_ | refine q_g (j := 8) rfl rfl (show 84 < 100 by decide) (((p_slice_h Try.underlying9 rfl rfl rfl (by simp; omega))).to (u := str (cat pre)) (by rw [← hrest, List.take_left])).q ?_
    first | refine q_g (j := 8) rfl rfl (show 85 < 100 by decide) (r_loado Try.underlying9 rfl rfl (by repeat constructor) (by rfl)).q ?_ | refine q_g (j := 8) rfl rfl (show 85 < 100 by decide) (r_load1 Try.underlying9 rfl rfl (by first | exact .fact (by repeat constructor) | exact .own (by repeat constructor) (by decide) (fun _ => rfl)) (by first | assumption | rfl) (by rfl)).q ?_ | refine q_g (j := 8) rfl rfl (show 85 < 100 by decide) (r_loadf Try.underlying9 rfl rfl (by first | exact .fact (by repeat constructor) | exact .own (by repeat constructor) (by decide) (fun _ => rfl)) (by assumption) (by rfl)).q ?_
    refine q_g (j := 8) rfl rfl (show 86 < 100 by decide) (((p_eqs rfl rfl)).to (u := .bool true) (by rw [decide_eq_true (rfl)])).q ?_
    refine q_q (show 87 < 100 by decide) (p_pick rfl rfl).q ?_
    refine q_q (show 88 < 100 by decide) (p_move rfl).q ?_
    first | refine q_g (j := 16) rfl rfl (show 89 < 100 by decide) (r_loado Try.underlying3 rfl rfl (by repeat constructor) (by rfl)).q ?_ | refine q_g (j := 16) rfl rfl (show 89 < 100 by decide) (r_load1 Try.underlying3 rfl rfl (by first | exact .fact (by repeat constructor) | exact .own (by repeat constructor) (by decide) (fun _ => rfl)) (by first | assumption | rfl) (by rfl)).q ?_ | refine q_g (j := 16) rfl rfl (show 89 < 100 by decide) (r_loadf Try.underlying3 rfl rfl (by first | exact .fact (by repeat constructor) | exact .own (by repeat constructor) (by decide) (fun _ => rfl)) (by assumption) (by rfl)).q ?_
    first | refine q_g (j := 16) rfl rfl (show 90 < 100 by decide) (r_loado Try.underlying5 rfl rfl (by repeat constructor) (by rfl)).q ?_ | refine q_g (j := 16) rfl rfl (show 90 < 100 by decide) (r_load1 Try.underlying5 rfl rfl (by first | exact .fact (by repeat constructor) | exact .own (by repeat constructor) (by decide) (fun _ => rfl)) (by first | assumption | rfl) (by rfl)).q ?_ | refine q_g (j := 16) rfl rfl (show 90 < 100 by decide) (r_loadf Try.underlying5 rfl rfl (by first | exact .fact (by repeat constructor) | exact .own (by repeat constructor) (by decide) (fun _ => rfl)) (by assumption) (by rfl)).q ?_
    refine q_g (j := 16) rfl rfl (show 91 < 100 by decide) (p_rem (j := 8) rfl rfl rfl rfl (by omega)).q ?_
    refine q_g (j := 16) rfl rfl (show 92 < 100 by decide) (p_convn Try.underlying5 Try.underlying3 rfl rfl (by show _ ≤ (9223372036854775807 : Nat); omega)).q ?_
    first | refine q_g (j := 16) rfl rfl (show 93 < 100 by decide) (p_eql rfl rfl rfl rfl).q ?_ | refine q_g (j := 16) rfl rfl (show 93 < 100 by decide) (p_eqli rfl rfl).q ?_
    refine q_g (j := 16) rfl rfl (show 94 < 100 by decide) (p_move rfl).q ?_
    first | refine q_splitd (t := 94) rfl (fun h94 => ?_) (fun h94 => ?_) | refine q_splitb (t := 94) rfl (fun h94 => ?_) (fun h94 => ?_)
    ·skip
     refine q_off (j := 22) rfl rfl (by first | (simp; done) | (simp [undef]; done)) (show 95 < 100 by decide) ?_
     refine q_off (j := 22) rfl rfl (by first | (simp; done) | (simp [undef]; done)) (show 96 < 100 by decide) ?_
     refine q_off (j := 22) rfl rfl (by first | (simp; done) | (simp [undef]; done)) (show 97 < 100 by decide) ?_
     refine q_g (j := 16) rfl rfl (show 98 < 100 by decide) (p_pick rfl rfl).q ?_
     refine q_q (show 99 < 100 by decide) (p_pick rfl rfl).q ?_
     refine q_q (show 6 < 100 by decide) (p_assign rfl).q ?_
     refine q_nil ?_
     refine c_ret ?_
     first | refine c_retm1 rfl rfl (fun w hs => ?_) | refine c_retn1 rfl rfl (fun w hs => ?_)
     exact ⟨rfl, hs.ext⟩
    ·skip
     first | refine q_g (j := 22) rfl rfl (show 95 < 100 by decide) (r_loado Try.underlying9 rfl rfl (by repeat constructor) (by rfl)).q ?_ | refine q_g (j := 22) rfl rfl (show 95 < 100 by decide) (r_load1 Try.underlying9 rfl rfl (by first | exact .fact (by repeat constructor) | exact .own (by repeat constructor) (by decide) (fun _ => rfl)) (by first | assumption | rfl) (by rfl)).q ?_ | refine q_g (j := 22) rfl rfl (show 95 < 100 by decide) (r_loadf Try.underlying9 rfl rfl (by first | exact .fact (by repeat constructor) | exact .own (by repeat constructor) (by decide) (fun _ => rfl)) (by assumption) (by rfl)).q ?_
     refine q_g (j := 22) rfl rfl (show 96 < 100 by decide) (p_move rfl).q ?_
     refine q_g (j := 22) rfl rfl (show 97 < 100 by decide) (((p_eqs rfl rfl)).to (u := .bool true) (by rw [decide_eq_true (hor.resolve_left h94)])).q ?_
     refine q_g (j := 16) rfl rfl (show 98 < 100 by decide) (p_pick rfl rfl).q ?_
     refine q_q (show 99 < 100 by decide) (p_pick rfl rfl).q ?_
     refine q_q (show 6 < 100 by decide) (p_assign rfl).q ?_
     refine q_nil ?_
     refine c_ret ?_
     first | refine c_retm1 rfl rfl (fun w hs => ?_) | refine c_retn1 rfl rfl (fun w hs => ?_)
     exact ⟨rfl, hs.ext⟩
   ·intro D pre x hsp hG
    obtain ⟨qq, hqq⟩ := hsp
    obtain ⟨rest, hrest⟩ : ∃ rest, cat pre ++ rest = txO x28.1 := ⟨x.1 ++ cat qq, by rw [← cat_tx hps, ← hqq]; simp [cat, vals]⟩
    have hor : pre.length = u.toNat % 8 ∨ cat pre = txO x28.1 := .inl hG
    have hle2 : (cat pre).length ≤ (txO x28.1).length := by rw [← hrest, List.length_append]; exact Nat.le_add_right _ _
    have hu8 := UInt8.toNat_lt u
    refine c_here ?_
    refine c_seq ?_
    refine c_draw mixed (by decide +kernel) ?_
    refine q_q (show 72 < 100 by decide) (q_call call_11 rfl (fun w hs => awake_ok w)) ?_
    refine q_q (show 73 < 100 by decide) (p_move rfl).q ?_
    first | refine q_g (j := 1) rfl rfl (show 74 < 100 by decide) (r_loado Try.underlying9 rfl rfl (by repeat constructor) (by rfl)).q ?_ | refine q_g (j := 1) rfl rfl (show 74 < 100 by decide) (r_load1 Try.underlying9 rfl rfl (by first | exact .fact (by repeat constructor) | exact .own (by repeat constructor) (by decide) (fun _ => rfl)) (by first | assumption | rfl) (by rfl)).q ?_ | refine q_g (j := 1) rfl rfl (show 74 < 100 by decide) (r_loadf Try.underlying9 rfl rfl (by first | exact .fact (by repeat constructor) | exact .own (by repeat constructor) (by decide) (fun _ => rfl)) (by assumption) (by rfl)).q ?_
    refine q_g (j := 1) rfl rfl (show 75 < 100 by decide) (p_len_str Try.underlying9 rfl).q ?_
    refine q_g (j := 1) rfl rfl (show 76 < 100 by decide) (p_move rfl).q ?_
    refine q_g (j := 1) rfl rfl (show 77 < 100 by decide) (p_len_str Try.underlying9 rfl).q ?_
    first | refine q_g (j := 1) rfl rfl (show 78 < 100 by decide) (((p_leq rfl rfl rfl rfl)).to (u := .bool true) (by rw [decide_eq_true (by rw [← hrest, List.length_append]; exact Nat.le_add_right _ _)])).q ?_ | refine q_g (j := 1) rfl rfl (show 78 < 100 by decide) (((p_leqi rfl rfl)).to (u := .bool true) (by rw [decide_eq_true (by rw [← hrest, List.length_append]; exact Nat.le_add_right _ _)])).q ?_
    refine q_q (show 79 < 100 by decide) (p_pick rfl rfl).q ?_
    refine q_q (show 80 < 100 by decide) (p_move rfl).q ?_
    refine q_g (j := 8) rfl rfl (show 81 < 100 by decide) (p_move rfl).q ?_
    first | refine q_g (j := 8) rfl rfl (show 82 < 100 by decide) (r_loado Try.underlying9 rfl rfl (by repeat constructor) (by rfl)).q ?_ | refine q_g (j := 8) rfl rfl (show 82 < 100 by decide) (r_load1 Try.underlying9 rfl rfl (by first | exact .fact (by repeat constructor) | exact .own (by repeat constructor) (by decide) (fun _ => rfl)) (by first | assumption | rfl) (by rfl)).q ?_ | refine q_g (j := 8) rfl rfl (show 82 < 100 by decide) (r_loadf Try.underlying9 rfl rfl (by first | exact .fact (by repeat constructor) | exact .own (by repeat constructor) (by decide) (fun _ => rfl)) (by assumption) (by rfl)).q ?_
    refine q_g (j := 8) rfl rfl (show 83 < 100 by decide) (p_len_str Try.underlying9 rfl).q ?_
    first | refine q_g (j := 8) rfl rfl (show 84 < 100 by decide) (((p_slice_h Try.underlying9 rfl rfl rfl (by omega))).to (u := str (cat pre)) (by rw [← hrest, List.take_left])).q ?_ | refine q_g (j := 8) rfl rfl (show 84 < 100 by decide) (((p_slice_h Try.underlying9 rfl rfl rfl (by simp; omega))).to (u := str (cat pre)) (by rw [← hrest, List.take_left])).q ?_
    first | refine q_g (j := 8) rfl rfl (show 85 < 100 by decide) (r_loado Try.underlying9 rfl rfl (by repeat constructor) (by rfl)).q ?_ | refine q_g (j := 8) rfl rfl (show 85 < 100 by decide) (r_load1 Try.underlying9 rfl rfl (by first | exact .fact (by repeat constructor) | exact .own (by repeat constructor) (by decide) (fun _ => rfl)) (by first | assumption | rfl) (by rfl)).q ?_ | refine q_g (j := 8) rfl rfl (show 85 < 100 by decide) (r_loadf Try.underlying9 rfl rfl (by first | exact .fact (by repeat constructor) | exact .own (by repeat constructor) (by decide) (fun _ => rfl)) (by assumption) (by rfl)).q ?_
    refine q_g (j := 8) rfl rfl (show 86 < 100 by decide) (((p_eqs rfl rfl)).to (u := .bool true) (by rw [decide_eq_true (rfl)])).q ?_
    refine q_q (show 87 < 100 by decide) (p_pick rfl rfl).q ?_
    refine q_q (show 88 < 100 by decide) (p_move rfl).q ?_
    first | refine q_g (j := 16) rfl rfl (show 89 < 100 by decide) (r_loado Try.underlying3 rfl rfl (by repeat constructor) (by rfl)).q ?_ | refine q_g (j := 16) rfl rfl (show 89 < 100 by decide) (r_load1 Try.underlying3 rfl rfl (by first | exact .fact (by repeat constructor) | exact .own (by repeat constructor) (by decide) (fun _ => rfl)) (by first | assumption | rfl) (by rfl)).q ?_ | refine q_g (j := 16) rfl rfl (show 89 < 100 by decide) (r_loadf Try.underlying3 rfl rfl (by first | exact .fact (by repeat constructor) | exact .own (by repeat constructor) (by decide) (fun _ => rfl)) (by assumption) (by rfl)).q ?_
    first | refine q_g (j := 16) rfl rfl (show 90 < 100 by decide) (r_loado Try.underlying5 rfl rfl (by repeat constructor) (by rfl)).q ?_ | refine q_g (j := 16) rfl rfl (show 90 < 100 by decide) (r_load1 Try.underlying5 rfl rfl (by first | exact .fact (by repeat constructor) | exact .own (by repeat constructor) (by decide) (fun _ => rfl)) (by first | assumption | rfl) (by rfl)).q ?_ | refine q_g (j := 16) rfl rfl (show 90 < 100 by decide) (r_loadf Try.underlying5 rfl rfl (by first | exact .fact (by repeat constructor) | exact .own (by repeat constructor) (by decide) (fun _ => rfl)) (by assumption) (by rfl)).q ?_
    refine q_g (j := 16) rfl rfl (show 91 < 100 by decide) (p_rem (j := 8) rfl rfl rfl rfl (by omega)).q ?_
    refine q_g (j := 16) rfl rfl (show 92 < 100 by decide) (p_convn Try.underlying5 Try.underlying3 rfl rfl (by show _ ≤ (9223372036854775807 : Nat); omega)).q ?_
    first | refine q_g (j := 16) rfl rfl (show 93 < 100 by decide) (p_eql rfl rfl rfl rfl).q ?_ | refine q_g (j := 16) rfl rfl (show 93 < 100 by decide) (p_eqli rfl rfl).q ?_
    refine q_g (j := 16) rfl rfl (show 94 < 100 by decide) (p_move rfl).q ?_
    first | refine q_splitd (t := 94) rfl (fun h94 => ?_) (fun h94 => ?_) | refine q_splitb (t := 94) rfl (fun h94 => ?_) (fun h94 => ?_)
    ·skip
     refine q_off (j := 22) rfl rfl (by first | (simp; done) | (simp [undef]; done)) (show 95 < 100 by decide) ?_
     refine q_off (j := 22) rfl rfl (by first | (simp; done) | (simp [undef]; done)) (show 96 < 100 by decide) ?_
     refine q_off (j := 22) rfl rfl (by first | (simp; done) | (simp [undef]; done)) (show 97 < 100 by decide) ?_
     refine q_g (j := 16) rfl rfl (show 98 < 100 by decide) (p_pick rfl rfl).q ?_
     refine q_q (show 99 < 100 by decide) (p_pick rfl rfl).q ?_
     refine q_q (show 6 < 100 by decide) (p_assign rfl).q ?_
     refine q_nil ?_
     refine c_ret ?_
     first | refine c_retm1 rfl rfl (fun w hs => ?_) | refine c_retn1 rfl rfl (fun w hs => ?_)
     exact ⟨rfl, hs.ext⟩
    ·skip
     first | refine q_g (j := 22) rfl rfl (show 95 < 100 by decide) (r_loado Try.underlying9 rfl rfl (by repeat constructor) (by rfl)).q ?_ | refine q_g (j := 22) rfl rfl (show 95 < 100 by decide) (r_load1 Try.underlying9 rfl rfl (by first | exact .fact (by repeat constructor) | exact .own (by repeat constructor) (by decide) (fun _ => rfl)) (by first | assumption | rfl) (by rfl)).q ?_ | refine q_g (j := 22) rfl rfl (show 95 < 100 by decide) (r_loadf Try.underlying9 rfl rfl (by first | exact .fact (by repeat constructor) | exact .own (by repeat constructor) (by decide) (fun _ => rfl)) (by assumption) (by rfl)).q ?_
     refine q_g (j := 22) rfl rfl (show 96 < 100 by decide) (p_move rfl).q ?_
     refine q_g (j := 22) rfl rfl (show 97 < 100 by decide) (((p_eqs rfl rfl)).to (u := .bool true) (by rw [decide_eq_true (hor.resolve_left h94)])).q ?_
     refine q_g (j := 16) rfl rfl (show 98 < 100 by decide) (p_pick rfl rfl).q ?_
     refine q_q (show 99 < 100 by decide) (p_pick rfl rfl).q ?_
     refine q_q (show 6 < 100 by decide) (p_assign rfl).q ?_
     refine q_nil ?_
     refine c_ret ?_
     first | refine c_retm1 rfl rfl (fun w hs => ?_) | refine c_retn1 rfl rfl (fun w hs => ?_)
     exact ⟨rfl, hs.ext⟩
end Go.Proofs.Ytdpocfkbnfhcfaa
