/- The walks of the recognizer, eighth part (the table of Derives); conditions: lengths. -/
import Derived.Test.YtncagpppmaehhaaWalksG
import Derived.Test.YtncagpppmaehhaaFxN
namespace Go.Proofs.Ytncagpppmaehhaa
open Go Go.Fx Go.Proofs

abbrev NF := Nat → Nat
/-- slices of m to blocks: the first k of n are there -/
def hdm (n m k : Nat) (B : NF) : List Value := Ana.mkl n fun i => if i < k then .slice (some ⟨B i, 0, none⟩) m m else .slice none 0 0
theorem hdm_rep (n m : Nat) (B : NF) : List.replicate n (Value.slice none 0 0) = hdm n m 0 B := by
  unfold hdm
  rw [show List.replicate n (Value.slice none 0 0) = Ana.mkl n (fun _ => Value.slice none 0 0) from Ana.mkl_rep ..]
  exact Ana.mkl_ext fun j _ => by rw [if_neg (by omega)]
theorem hdm_len (n m k : Nat) (B : NF) : (hdm n m k B).length = n := Ana.mkl_len _ _
theorem hdm_at {n m k i : Nat} {B : NF} (h : i < n) (hk : i < k) : (hdm n m k B)[i * 1]? = some (.slice (some ⟨B i, 0, none⟩) m m) := by
  rw [Nat.mul_one, hdm, Ana.mkl_at h, if_pos hk]
theorem hdm_set {n m k b : Nat} {B : NF} : (hdm n m k B).set (k * 1) (.slice (some ⟨b, 0, none⟩) m m) = hdm n m (k + 1) (Ana.upd B k b) := by
  rw [Nat.mul_one, hdm, Ana.mkl_set]
  refine Ana.mkl_ext fun j _ => ?_
  unfold Ana.upd
  by_cases e : j = k
  · simp [e]
  · by_cases h : j < k
    · simp [e, h, show j < k + 1 by omega]
    · simp [e, h, show ¬ j < k + 1 by omega]
theorem hdm_ext {n m k : Nat} {B C : NF} (h : ∀ i, i < k → B i = C i) : hdm n m k B = hdm n m k C := Ana.mkl_ext fun j _ => by
  by_cases hj : j < k
  · rw [if_pos hj, if_pos hj, h j hj]
  · rw [if_neg hj, if_neg hj]
open Go.Proofs.Rec in
def mid (L : Nat) (M R : NF) (i : Nat) : Fx.Item := iCells (M i) 42 (hdm L L L (fun k => R (i * L + k)))
open Go.Proofs.Rec in
def row3 (L : Nat) (R : NF) (d : T3) (p : Nat) : Fx.Item := iCells (R p) 4 (bl L (d (p / L) (p % L)))
abbrev tab3 (n L T : Nat) (M R : NF) (d : Go.Proofs.Rec.T3) : Fx.Own := iCells T 43 (hdm n L n M) :: (fam n (mid L M R) ++ fam (n * L) (row3 L R d))
theorem updN_at (f : NF) (i v : Nat) : Ana.upd f i v i = v := by simp [Ana.upd]
theorem updN_off {f : NF} {i j v : Nat} (h : j ≠ i) : Ana.upd f i v j = f j := by simp [Ana.upd, h]
theorem hdm_upd {n m k o b : Nat} {Q : NF} : hdm n m (k + 1) (Ana.upd (fun q => Q (o + q)) k b) = hdm n m (k + 1) (fun q => Ana.upd Q (o + k) b (o + q)) := hdm_ext fun q _ => by
  by_cases e : q = k
  · subst e; rw [updN_at, updN_at]
  · rw [updN_off e, updN_off (by omega)]
theorem mid_upd {L i k b : Nat} {M R : NF} {j : Nat} (hj : j < i) : mid L M R j = mid L M (Ana.upd R (i * L + k) b) j := by
  unfold mid
  rw [hdm_ext (C := fun q => Ana.upd R (i * L + k) b (j * L + q)) (fun q hq => ?_)]
  have h := Nat.mul_le_mul_right L (show j + 1 ≤ i from hj)
  rw [Nat.add_mul] at h
  rw [updN_off (by omega)]
theorem row_step {L i k b : Nat} {R : NF} (top x19 : Fx.Item) {M : NF} : (iCells b 4 (List.replicate L (Value.bool false)) :: top :: x19 :: (fam i (mid L M R) ++ fam (i * L + k) (row3 L R (fun _ _ _ => false)))).Perm (top :: x19 :: (fam i (mid L M (Ana.upd R (i * L + k) b)) ++ fam (i * L + k + 1) (row3 L (Ana.upd R (i * L + k) b) (fun _ _ _ => false)))) := by
  rw [fam_congr (F := mid L M R) (G := mid L M (Ana.upd R (i * L + k) b)) (fun j hj => mid_upd hj)]
  refine fam_push (l := top :: x19 :: fam i (mid L M (Ana.upd R (i * L + k) b))) ?_ ?_
  · unfold row3
    rw [updN_at, bl_rep]
  · intro j hj
    unfold row3
    rw [updN_off (by omega)]
theorem mid_step {L i b : Nat} {M R : NF} (top : Fx.Item) {m : Nat} (hm : m = (i + 1) * L) : (top :: iCells b 42 (hdm L L L (fun k => R (i * L + k))) :: (fam i (mid L M R) ++ fam m (row3 L R (fun _ _ _ => false)))).Perm (top :: (fam (i + 1) (mid L (Ana.upd M i b) R) ++ fam ((i + 1) * L) (row3 L R (fun _ _ _ => false)))) := by
  subst hm
  refine List.Perm.cons _ ?_
  have h : (iCells b 42 (hdm L L L (fun k => R (i * L + k))) :: ([] ++ fam i (mid L M R))).Perm ([] ++ fam (i + 1) (mid L (Ana.upd M i b) R)) := fam_push [] (by unfold mid; rw [updN_at]) (fun j hj => by unfold mid; rw [updN_off (by omega)])
  exact h.append_right _
theorem inf_43 : InfoIs Try.prog 43 1 24 (.slice none 0 0) := by unfold InfoIs; kernel_rfl
theorem table_ok (n m : Nat) (hn : n ≤ 1000) (hm : m ≤ 1000) (w : World) :
   Calls Try.prog 39 #[.int .i64 (n : Int), .int .i64 (m : Int)] w (Ret fun v w' => ∃ (x : Nat × NF × NF) (ρ' : Facts), v = .slice (some ⟨x.1, 0, none⟩) n n ∧ St w [] w' (tab3 n (m + 1) x.1 x.2.1 x.2.2 (fun _ _ _ => false)) ρ') := by
 refine calls_fx (l := [.int .i64 (n : Int), .int .i64 (m : Int)]) Try.func39 rfl Try.ntmps39 (Nat.le_of_ble_eq_true rfl) (St.start w) ?_
 refine c_seq ?_
 refine c_reg ?_
 refine l_q (by decide) (p_assign rfl).q ?_
 refine l_nil ?_
 refine c_seq ?_
 refine c_reg ?_
 refine l_q (by decide) (p_move rfl).q ?_
 refine l_make (by decide) Try.underlying44 inf_43 rfl rfl rfl rfl rfl rfl (by omega) (by omega) (fun b9 => ?_)
 refine l_q (by decide) (p_assign rfl).q ?_
 refine l_nil ?_
 refine c_seq ?_
 refine c_seq ?_
 refine c_reg ?_
 refine l_q (by decide) (p_assign (v := .int .i64 ((0 : Nat) : Int)) rfl).q ?_
 refine l_nil ?_
 refine c_block ?_
 rw [hdm_rep n (m + 1) (fun _ => 0)]
 refine c_loop (S := Nat × NF × NF) (fun zs => zs.1 ≤ n) (fun zs => n - zs.1) (fun zs => [(0, .int .i64 (n : Int)), (1, .int .i64 (m : Int)), (5, .slice (some ⟨b9, 0, none⟩) n n), (6, .int .i64 (zs.1 : Int))]) (fun zs => (iCells b9 43 (hdm n (m + 1) zs.1 zs.2.1) :: (fam zs.1 (mid (m + 1) zs.2.1 zs.2.2) ++ fam (zs.1 * (m + 1)) (row3 (m + 1) zs.2.2 (fun _ _ _ => false))))) (fun zs => []) (0, fun _ => 0, fun _ => 0) ?_ ?_ ?_ ?_ ?_
 · show (0) ≤ n
   exact Nat.zero_le _
 · exact ⟨rfl, rfl, rfl, rfl, trivial⟩
 · exact (by rw [Nat.zero_mul]; exact .refl _)
 · exact fun _ h => absurd h List.not_mem_nil
 rintro ⟨i, M, R⟩ hinv
 have hinv : i ≤ n := hinv
 have hi := hinv
 show Cont _ _ _ _ [(0, .int .i64 (n : Int)), (1, .int .i64 (m : Int)), (5, .slice (some ⟨b9, 0, none⟩) n n), (6, .int .i64 (i : Int))] ((iCells b9 43 (hdm n (m + 1) i M) :: (fam i (mid (m + 1) M R) ++ fam (i * (m + 1)) (row3 (m + 1) R (fun _ _ _ => false))))) []
 refine c_seq ?_
 refine c_seq ?_
 refine c_reg ?_
 refine l_q (by decide) (p_move rfl).q ?_
 refine l_q (by decide) (p_move rfl).q ?_
 first | refine l_q (by decide) (p_lss rfl rfl rfl rfl).q ?_ | refine l_q (by decide) (p_lssi rfl rfl).q ?_
 refine l_nil ?_
 first | refine c_dec rfl (fun h12 => ?_) (fun h12 => ?_) | refine c_cond rfl (fun h12 => ?_) (fun h12 => ?_)
 ·skip
  refine c_skip ?_
  refine c_seq ?_
  refine c_block ?_
  refine c_seq ?_
  have hkb : i * 1 < (hdm n (m + 1) i M).length := by rw [hdm_len]; omega
  refine c_reg ?_
  refine l_q (by decide) (p_move rfl).q ?_
  refine l_q (by decide) (p_move rfl).q ?_
  refine l_q (by decide) (p_move rfl).q ?_
  first | refine l_q (by decide) (p_add (j := 1) rfl rfl rfl rfl (by show _ ≤ (9223372036854775807 : Nat); omega)).q ?_ | refine l_q (by decide) (p_addi rfl rfl (by show (-9223372036854775808 : Int) ≤ _; omega) (by show _ ≤ ((9223372036854775807 : Nat) : Int); omega)).q ?_
  refine l_make (by decide) Try.underlying43 inf_42 rfl rfl rfl rfl rfl rfl (by omega) (by omega) (fun b19 => ?_)
  first | refine l_q (by decide) (r_index Try.underlying44 inf_43 rfl rfl rfl (by first | exact .fact (by repeat constructor) | exact .own (by repeat constructor) (by decide) (fun _ => rfl) | exact SlIn.body (by repeat constructor) (by assumption)) rfl (by omega)).q ?_ | refine l_q (by decide) (r_index Try.underlying44 inf_43 rfl rfl rfl (by first | exact .fact (by repeat constructor) | exact .own (by repeat constructor) (by decide) (fun _ => rfl) | exact SlIn.body (by repeat constructor) (by assumption)) rfl (by decide)).q ?_ | refine l_q (by decide) (p_indexo Try.underlying44 inf_43 rfl rfl rfl (by omega)).q ?_
  first | (refine l_store inf_43 rfl rfl rfl rfl (by first | decide | exact Nat.le_of_ble_eq_true rfl | (simp; done) | omega | (simp only [Nat.mul_one]; assumption)) ?_) | (refine l_perm (front1 _ _ _) ?_; refine l_store inf_43 rfl rfl rfl rfl (by first | decide | exact Nat.le_of_ble_eq_true rfl | (simp; done) | omega | (simp only [Nat.mul_one]; assumption)) ?_) | (refine l_perm (front2 _ _ _ _) ?_; refine l_store inf_43 rfl rfl rfl rfl (by first | decide | exact Nat.le_of_ble_eq_true rfl | (simp; done) | omega | (simp only [Nat.mul_one]; assumption)) ?_) | (refine l_perm (front3 _ _ _ _ _) ?_; refine l_store inf_43 rfl rfl rfl rfl (by first | decide | exact Nat.le_of_ble_eq_true rfl | (simp; done) | omega | (simp only [Nat.mul_one]; assumption)) ?_) | (refine l_perm (front4 _ _ _ _ _ _) ?_; refine l_store inf_43 rfl rfl rfl rfl (by first | decide | exact Nat.le_of_ble_eq_true rfl | (simp; done) | omega | (simp only [Nat.mul_one]; assumption)) ?_)
  refine l_nil ?_
  refine c_seq ?_
  refine c_reg ?_
  refine l_q (by decide) (p_assign (v := .int .i64 ((0 : Nat) : Int)) rfl).q ?_
  refine l_nil ?_
  refine c_block ?_
  rw [hdm_set, hdm_rep (m + 1) (m + 1) (fun q => R (i * (m + 1) + q))]
  refine c_loop (S := Nat × NF) (fun zs => zs.1 ≤ m + 1) (fun zs => m + 1 - zs.1) (fun zs => [(0, .int .i64 (n : Int)), (1, .int .i64 (m : Int)), (5, .slice (some ⟨b9, 0, none⟩) n n), (6, .int .i64 (i : Int)), (7, .int .i64 (zs.1 : Int))]) (fun zs => (iCells b9 43 (hdm n (m + 1) (i + 1) (Ana.upd M i b19)) :: iCells b19 42 (hdm (m + 1) (m + 1) zs.1 (fun q => zs.2 (i * (m + 1) + q))) :: (fam i (mid (m + 1) M zs.2) ++ fam (i * (m + 1) + zs.1) (row3 (m + 1) zs.2 (fun _ _ _ => false))))) (fun zs => []) (0, R) ?_ ?_ ?_ ?_ ?_
  · show (0) ≤ m + 1
    exact Nat.zero_le _
  · exact ⟨rfl, rfl, rfl, rfl, rfl, trivial⟩
  · exact .refl _
  · exact fun _ h => absurd h List.not_mem_nil
  rintro ⟨k, Q⟩ hinv
  have hinv : k ≤ m + 1 := hinv
  have hk := hinv
  show Cont _ _ _ _ [(0, .int .i64 (n : Int)), (1, .int .i64 (m : Int)), (5, .slice (some ⟨b9, 0, none⟩) n n), (6, .int .i64 (i : Int)), (7, .int .i64 (k : Int))] ((iCells b9 43 (hdm n (m + 1) (i + 1) (Ana.upd M i b19)) :: iCells b19 42 (hdm (m + 1) (m + 1) k (fun q => Q (i * (m + 1) + q))) :: (fam i (mid (m + 1) M Q) ++ fam (i * (m + 1) + k) (row3 (m + 1) Q (fun _ _ _ => false))))) []
  refine c_seq ?_
  refine c_seq ?_
  refine c_reg ?_
  refine l_q (by decide) (p_move rfl).q ?_
  refine l_q (by decide) (p_move rfl).q ?_
  first | refine l_q (by decide) (p_leq rfl rfl rfl rfl).q ?_ | refine l_q (by decide) (p_leqi rfl rfl).q ?_
  refine l_nil ?_
  first | refine c_dec rfl (fun h23 => ?_) (fun h23 => ?_) | refine c_cond rfl (fun h23 => ?_) (fun h23 => ?_)
  ·skip
   refine c_skip ?_
   refine c_seq ?_
   refine c_block ?_
   have hkb2 : k * 1 < (hdm (m + 1) (m + 1) k (fun q => Q (i * (m + 1) + q))).length := by rw [hdm_len]; omega
   refine m_draw [9] mixed ?_
   refine m_takep 0 rfl (by kernel_rfl) (by decide) (p_move rfl) ?_
   refine m_takep 1 rfl (by kernel_rfl) (by decide) (p_move rfl) ?_
   first | refine m_take 2 rfl (by kernel_rfl) (by decide) (by first | exact (List.Perm.refl _ : List.Perm _ ([] ++ _)) | exact (List.Perm.refl _ : List.Perm _ ([_] ++ _)) | exact (List.Perm.refl _ : List.Perm _ ([_, _] ++ _)) | exact (List.Perm.refl _ : List.Perm _ ([_, _, _] ++ _)) | exact (List.Perm.refl _ : List.Perm _ ([_, _, _, _] ++ _)) | exact (List.Perm.refl _ : List.Perm _ ([_, _, _, _, _] ++ _)) | exact List.Perm.refl _) (by first | exact fun _ h => h | exact fun _ h => List.mem_cons_of_mem _ h | exact fun _ h => List.mem_cons_of_mem _ (List.mem_cons_of_mem _ h) | exact fun _ h => List.mem_cons_of_mem _ (List.mem_cons_of_mem _ (List.mem_cons_of_mem _ h))) (r_index Try.underlying44 inf_43 rfl rfl rfl (by first | exact .fact (by repeat constructor) | exact .own (by repeat constructor) (by decide) (fun _ => rfl) | exact SlIn.body (by repeat constructor) (by assumption)) rfl (by omega)).r ?_ | refine m_take 2 rfl (by kernel_rfl) (by decide) (by first | exact (List.Perm.refl _ : List.Perm _ ([] ++ _)) | exact (List.Perm.refl _ : List.Perm _ ([_] ++ _)) | exact (List.Perm.refl _ : List.Perm _ ([_, _] ++ _)) | exact (List.Perm.refl _ : List.Perm _ ([_, _, _] ++ _)) | exact (List.Perm.refl _ : List.Perm _ ([_, _, _, _] ++ _)) | exact (List.Perm.refl _ : List.Perm _ ([_, _, _, _, _] ++ _)) | exact List.Perm.refl _) (by first | exact fun _ h => h | exact fun _ h => List.mem_cons_of_mem _ h | exact fun _ h => List.mem_cons_of_mem _ (List.mem_cons_of_mem _ h) | exact fun _ h => List.mem_cons_of_mem _ (List.mem_cons_of_mem _ (List.mem_cons_of_mem _ h))) (r_index Try.underlying44 inf_43 rfl rfl rfl (by first | exact .fact (by repeat constructor) | exact .own (by repeat constructor) (by decide) (fun _ => rfl) | exact SlIn.body (by repeat constructor) (by assumption)) rfl (by decide)).r ?_ | refine m_takep 2 rfl (by kernel_rfl) (by decide) (p_indexo Try.underlying44 inf_43 rfl rfl rfl (by omega)) ?_
   refine m_take 3 rfl (by kernel_rfl) (by decide) (by first | exact (List.Perm.refl _ : List.Perm _ ([] ++ _)) | exact (List.Perm.refl _ : List.Perm _ ([_] ++ _)) | exact (List.Perm.refl _ : List.Perm _ ([_, _] ++ _)) | exact (List.Perm.refl _ : List.Perm _ ([_, _, _] ++ _)) | exact (List.Perm.refl _ : List.Perm _ ([_, _, _, _] ++ _)) | exact (List.Perm.refl _ : List.Perm _ ([_, _, _, _, _] ++ _)) | exact List.Perm.refl _) (by first | exact fun _ h => h | exact fun _ h => List.mem_cons_of_mem _ h | exact fun _ h => List.mem_cons_of_mem _ (List.mem_cons_of_mem _ h) | exact fun _ h => List.mem_cons_of_mem _ (List.mem_cons_of_mem _ (List.mem_cons_of_mem _ h))) (((r_loado Try.underlying43 rfl rfl (by repeat constructor) (hdm_at (by omega) (Nat.lt_succ_self i)))).to (u := .slice (some ⟨b19, 0, none⟩) (m + 1) (m + 1)) (by rw [updN_at])).r ?_
   refine m_takep 4 rfl (by kernel_rfl) (by decide) (p_move rfl) ?_
   refine m_takep 5 rfl (by kernel_rfl) (by decide) (p_move rfl) ?_
   first | refine m_takep 6 rfl (by kernel_rfl) (by decide) (p_add (j := 1) rfl rfl rfl rfl (by show _ ≤ (9223372036854775807 : Nat); omega)) ?_ | refine m_takep 6 rfl (by kernel_rfl) (by decide) (p_addi rfl rfl (by show (-9223372036854775808 : Int) ≤ _; omega) (by show _ ≤ ((9223372036854775807 : Nat) : Int); omega)) ?_
   refine m_run 7 rfl (by kernel_rfl) ?_
   refine l_make (by decide) Try.underlying42 inf_4 rfl rfl rfl rfl rfl rfl (by omega) (by omega) (fun b33 => ?_)
   refine l_nil ?_
   refine m_next _ (by first | exact (List.Perm.refl _ : List.Perm _ ([] ++ _)) | exact (List.Perm.refl _ : List.Perm _ ([_] ++ _)) | exact (List.Perm.refl _ : List.Perm _ ([_, _] ++ _)) | exact (List.Perm.refl _ : List.Perm _ ([_, _, _] ++ _)) | exact (List.Perm.refl _ : List.Perm _ ([_, _, _, _] ++ _)) | exact (List.Perm.refl _ : List.Perm _ ([_, _, _, _, _] ++ _)) | exact List.Perm.refl _) (by first | exact fun _ h => h | exact fun _ h => List.mem_cons_of_mem _ h | exact fun _ h => List.mem_cons_of_mem _ (List.mem_cons_of_mem _ h) | exact fun _ h => List.mem_cons_of_mem _ (List.mem_cons_of_mem _ (List.mem_cons_of_mem _ h))) ?_
   first | refine m_take 8 rfl (by kernel_rfl) (by decide) (by first | exact (List.Perm.refl _ : List.Perm _ ([] ++ _)) | exact (List.Perm.refl _ : List.Perm _ ([_] ++ _)) | exact (List.Perm.refl _ : List.Perm _ ([_, _] ++ _)) | exact (List.Perm.refl _ : List.Perm _ ([_, _, _] ++ _)) | exact (List.Perm.refl _ : List.Perm _ ([_, _, _, _] ++ _)) | exact (List.Perm.refl _ : List.Perm _ ([_, _, _, _, _] ++ _)) | exact List.Perm.refl _) (by first | exact fun _ h => h | exact fun _ h => List.mem_cons_of_mem _ h | exact fun _ h => List.mem_cons_of_mem _ (List.mem_cons_of_mem _ h) | exact fun _ h => List.mem_cons_of_mem _ (List.mem_cons_of_mem _ (List.mem_cons_of_mem _ h))) (r_index Try.underlying43 inf_42 rfl rfl rfl (by first | exact .fact (by repeat constructor) | exact .own (by repeat constructor) (by decide) (fun _ => rfl) | exact SlIn.body (by repeat constructor) (by assumption)) rfl (by omega)).r ?_ | refine m_take 8 rfl (by kernel_rfl) (by decide) (by first | exact (List.Perm.refl _ : List.Perm _ ([] ++ _)) | exact (List.Perm.refl _ : List.Perm _ ([_] ++ _)) | exact (List.Perm.refl _ : List.Perm _ ([_, _] ++ _)) | exact (List.Perm.refl _ : List.Perm _ ([_, _, _] ++ _)) | exact (List.Perm.refl _ : List.Perm _ ([_, _, _, _] ++ _)) | exact (List.Perm.refl _ : List.Perm _ ([_, _, _, _, _] ++ _)) | exact List.Perm.refl _) (by first | exact fun _ h => h | exact fun _ h => List.mem_cons_of_mem _ h | exact fun _ h => List.mem_cons_of_mem _ (List.mem_cons_of_mem _ h) | exact fun _ h => List.mem_cons_of_mem _ (List.mem_cons_of_mem _ (List.mem_cons_of_mem _ h))) (r_index Try.underlying43 inf_42 rfl rfl rfl (by first | exact .fact (by repeat constructor) | exact .own (by repeat constructor) (by decide) (fun _ => rfl) | exact SlIn.body (by repeat constructor) (by assumption)) rfl (by decide)).r ?_ | refine m_takep 8 rfl (by kernel_rfl) (by decide) (p_indexo Try.underlying43 inf_42 rfl rfl rfl (by omega)) ?_
   refine m_run 9 rfl (by kernel_rfl) ?_
   first | (refine l_store inf_42 rfl rfl rfl rfl (by first | decide | exact Nat.le_of_ble_eq_true rfl | (simp; done) | omega | (simp only [Nat.mul_one]; assumption)) ?_) | (refine l_perm (front1 _ _ _) ?_; refine l_store inf_42 rfl rfl rfl rfl (by first | decide | exact Nat.le_of_ble_eq_true rfl | (simp; done) | omega | (simp only [Nat.mul_one]; assumption)) ?_) | (refine l_perm (front2 _ _ _ _) ?_; refine l_store inf_42 rfl rfl rfl rfl (by first | decide | exact Nat.le_of_ble_eq_true rfl | (simp; done) | omega | (simp only [Nat.mul_one]; assumption)) ?_) | (refine l_perm (front3 _ _ _ _ _) ?_; refine l_store inf_42 rfl rfl rfl rfl (by first | decide | exact Nat.le_of_ble_eq_true rfl | (simp; done) | omega | (simp only [Nat.mul_one]; assumption)) ?_) | (refine l_perm (front4 _ _ _ _ _ _) ?_; refine l_store inf_42 rfl rfl rfl rfl (by first | decide | exact Nat.le_of_ble_eq_true rfl | (simp; done) | omega | (simp only [Nat.mul_one]; assumption)) ?_)
   refine l_nil ?_
   refine m_late rfl ?_
   refine m_done (by kernel_rfl) ?_
   refine c_reg ?_
   refine l_q (by decide) (p_move rfl).q ?_
   first | refine l_q (by decide) (p_add (j := 1) rfl rfl rfl rfl (by show _ ≤ (9223372036854775807 : Nat); omega)).q ?_ | refine l_q (by decide) (p_addi rfl rfl (by show (-9223372036854775808 : Int) ≤ _; omega) (by show _ ≤ ((9223372036854775807 : Nat) : Int); omega)).q ?_
   refine l_q (by decide) (p_assign rfl).q ?_
   refine l_nil ?_
   refine c_join ((k + 1), (Ana.upd Q (i * (m + 1) + k) b33)) ?_ ?_ ?_ ?_
   ·show ((k + 1) ≤ m + 1) ∧ m + 1 - (k + 1) < m + 1 - k
    exact ⟨by omega, by omega⟩
   · exact ⟨rfl, rfl, rfl, rfl, rfl, trivial⟩
   ·show List.Perm _ ((iCells b9 43 (hdm n (m + 1) (i + 1) (Ana.upd M i b19)) :: iCells b19 42 (hdm (m + 1) (m + 1) (k + 1) (fun q => (Ana.upd Q (i * (m + 1) + k) b33) (i * (m + 1) + q))) :: (fam i (mid (m + 1) M (Ana.upd Q (i * (m + 1) + k) b33)) ++ fam (i * (m + 1) + (k + 1)) (row3 (m + 1) (Ana.upd Q (i * (m + 1) + k) b33) (fun _ _ _ => false)))))
    rw [hdm_set, hdm_upd]
    exact (front2 _ _ _ _).symm.trans (row_step _ _)
   · exact fun _ h => absurd h List.not_mem_nil
  ·skip
   refine c_exit ?_
   refine c_here ?_
   refine c_reg ?_
   refine l_q (by decide) (p_move rfl).q ?_
   first | refine l_q (by decide) (p_add (j := 1) rfl rfl rfl rfl (by show _ ≤ (9223372036854775807 : Nat); omega)).q ?_ | refine l_q (by decide) (p_addi rfl rfl (by show (-9223372036854775808 : Int) ≤ _; omega) (by show _ ≤ ((9223372036854775807 : Nat) : Int); omega)).q ?_
   refine l_q (by decide) (p_assign rfl).q ?_
   refine l_nil ?_
   refine c_join ((i + 1), (Ana.upd M i b19), (Q)) ?_ ?_ ?_ ?_
   ·show ((i + 1) ≤ n) ∧ n - (i + 1) < n - i
    exact ⟨by omega, by omega⟩
   · exact ⟨rfl, rfl, rfl, rfl, trivial⟩
   ·show List.Perm _ ((iCells b9 43 (hdm n (m + 1) (i + 1) (Ana.upd M i b19)) :: (fam (i + 1) (mid (m + 1) (Ana.upd M i b19) (Q)) ++ fam ((i + 1) * (m + 1)) (row3 (m + 1) (Q) (fun _ _ _ => false)))))
    obtain rfl : k = m + 1 := by omega
    exact mid_step _ (by rw [Nat.add_mul, Nat.one_mul])
   · exact fun _ h => absurd h List.not_mem_nil
 ·skip
  refine c_exit ?_
  refine c_here ?_
  refine c_seq ?_
  refine c_reg ?_
  refine l_q (by decide) (p_move rfl).q ?_
  refine l_q (by decide) (p_assign rfl).q ?_
  refine l_nil ?_
  refine c_ret ?_
  refine c_ret1 rfl rfl (fun w hs => ?_)
  obtain rfl : i = n := by omega
  exact ⟨(b9, M, R), _, rfl, hs⟩
end Go.Proofs.Ytncagpppmaehhaa
